/-
  Texts on which the proof of PostOrders leans: part 5.
-/
import Derived.Test.YtciimaabeabkdaaGreatDoorPostOrdersD
import Derived.WalkKit
import Derived.LaidEql
import Derived.RowKitTokens
import Derived.Stop.Asserts
import Derived.Deep.Slices
import Derived.ChangeSame
import Derived.ProofKit
import Derived.OpenShut
import Derived.ChangeOld
import Derived.SizedLaws
import Derived.Carry
import Derived.Test.YtciimaabeabkdaaGreatDoorRows
set_option linter.unusedVariables false
set_option linter.unusedSimpArgs false
set_option maxRecDepth 20000
set_option maxHeartbeats 8000000
namespace Go.Proofs.YtciimaabeabkdaaGreatDoor
open Go Go.MV
theorem large_eq (n m : Int) (s : List Bs) (c : List (List Tk)) (w : List Val) : largeF (.mk n m s c w) = (decide (40 < max (max s.length c.length) w.length) || (decide (c.length = 1) && decide (40 < (c.headD []).length))) := by
 unfold largeF
 congr 1
 rcases c with _ | ⟨x, _ | ⟨y, c⟩⟩ <;> simp [Val.cv]
theorem or_three (a b c : Int) : orF [a, b, c] = if a ≠ 0 then a else if b ≠ 0 then b else c := by
 rw [or_cons, or_cons, or_cons]
 by_cases ha : a = 0 <;> by_cases hb : b = 0 <;> by_cases hc : c = 0 <;> simp [ha, hb, hc, orF]
theorem jTicks1_spec (x y : Tk) (S : MS) : MCalls Tryz.prog 304 [encT x, encT y] S fun v σ' => v = .int .i64 (tickC x y) ∧ σ' = S := by
 refine zM Tryz.func304 V Tryz.ntmps304 (zA V) ?_
 refine zB <| qR V <| qB V V V V V <| qB V V V V V <| qA V V V <| qN <| zB ?_
 refine zX0 [] [_] mo (by decide) V V V V ?_
 refine dO V V V (zE V V zB6 Vv) <| dO V V V (zO0 V V V ta3 V Vv) <| dO V V V (zE V V zB6 Vv) <| dO V V V (zO0 V V V ta3 V Vv) <| zU V V (.cons (zD1 V V V co166 (compare_spec x.1 y.1 _)) .nil) <| dO V V V (zE V V fo262_1 Vv) <| dO V V V (zO0 V V V ta22 V Vv) <| dO V V V (zE V V fo262_1 Vv) <| dO V V V (zO0 V V V ta22 V Vv) <| zU V V (.cons (zD1 V V V co271 (compareu_spec x.2 y.2 _)) .nil) <| dO V V V (zJ1 V zN6 el3 V V (by decide) (by decide) V V Vv) ?_
 refine zU V V (.cons (zD1 V V V co270 (cmpOr_spec [cmpI x.1 y.1, cmpI x.2 y.2] _)) .nil) <| dO V V V (zF1 V V Vv) <| zP0 <| zI ?_
 exact zR (.inr V) Tryz.results304 V (.of_eq (by rw [or_two]; rfl)) (.int _ _) Vv
theorem jCmpFunc_spec (a b : List Tk) (S : MS) : MCalls Tryz.prog 287 [.lst none 2 (a.map encT), .lst none 2 (b.map encT), .fn (.func 304) [] []] S fun v σ' => v = .int .i64 (byTicksF a b) ∧ σ' = S := by
 refine zM Tryz.func287 V Tryz.ntmps287 (zA V) ?_
 refine zL3 (t := 0) V fun hlen => ?_
 rw [zF] at hlen
 refine zB <| qR V <| qA V V V <| qN <| zB <| zB <| qR V <| qM V V V <| qE V V zA0 V <| qM V V V <| qN <| zX ?_
 refine zD4 (α := Nat) [(0, _), (1, _), (2, _), (11, _), (12, _)] (fun i => [(13, .int .i64 (i : Int))]) (fun i => []) (fun i => i ≤ a.length ∧ i ≤ b.length ∧ byTicksF (a.drop i) (b.drop i) = byTicksF a b) (fun i => a.length - i) (0) (Nat.le_refl _) (.keep V (.keep V (.keep V (.keep V (.keep V (.nil)))))) (.keep V (.nil)) (⟨by omega, by omega, rfl⟩) (V) ?_
 rintro i ⟨hi, hib, he⟩
 refine zB <| qR V <| qC V V V V V <| qN <| zB ?_
 refine zJ V (fun h14 => ?_) (fun h14 => ?_)
 ·
  have hlt : i < a.length := by simpa using h14
  obtain ⟨x, hs⟩ : ∃ q_, a[i]? = some q_ := ⟨_, zC hlt⟩
  refine zQ <| zB <| zX <| zB <| qR V <| qM V V V <| qO V <| zK V zA0 sz262 (by decide) V V V (zE1 hs) ?_
  refine qO V <| zO V V ta262 V <| qO V <| zN0 V zm262 V V <| qA V V V <| qO V <| zC0 V V V V sz262 V V (zA V) V <| qN <| zB <| zB <| qR V <| qM V V V <| qM V V V <| qE V V zA0 V <| qC V V V V V <| qN ?_
  refine zJ V (fun h21 => ?_) (fun h21 => ?_)
  ·
   have hbe : b.drop i = [] := by rw [zF] at h21; simp at h21; exact List.drop_eq_nil_of_le (by omega)
   refine zB <| qR V <| qA V V V <| qN <| zI ?_
   exact zR (.inr V) zV4 V (.of_eq (by rw [← he, hbe, drop_at hs]; rfl)) (.int _ _) Vv
  ·
   have hltb : i < b.length := by rw [zF] at h21; simp at h21; omega
   obtain ⟨y, hs2⟩ : ∃ s, b[i]? = some s := ⟨_, zC hltb⟩
   refine zQ <| zB <| qR V <| qM V V V <| qM V V V <| qO V <| zK V zA0 sz262 (by decide) V V V (zE1 hs2) ?_
   refine qO V <| zO V V ta262 V <| qO V <| zN0 V zm262 V V <| qO V <| zC0 V V V V sz262 V V (zA V) V <| qN <| zB <| qR V <| qM V V V <| qL V V V V ta262 V <| qL V V V V ta262 V ?_
   refine qX V V V V co304 (jTicks1_spec x y _) ?_
   refine qA V V V <| qN <| zB <| qR V <| qM V V V <| qC V V V V V <| qN ?_
   refine zJ V (fun h31 => ?_) (fun h31 => ?_)
   ·
    refine zB <| qR V <| qM V V V <| qA V V V <| qN <| zI ?_
    exact zR (.inr V) zV4 V (.of_eq (by rw [← he, ticks_at hs hs2, if_pos (by simpa using h31)])) (.int _ _) Vv
   ·
    refine zQ <| qR V <| qO V <| zT0 V V V V <| qM V V V <| qN ?_
    refine ⟨i + 1, _, by omega, ⟨by omega, by omega, by rw [← he, ticks_at hs hs2, if_neg (by simpa using h31)]⟩, rfl, .nil, (.old V V (.old V V (.old V V (.old V V (.old V V (.nil)))))), (.new' V (zQ1 hlt hlen) (.int _ _) (.nil))⟩
 ·
  have hge : i = a.length := by simp at h14; omega
  refine zM1 <| zB <| zB <| qR V <| qM V V V <| qE V V zA0 V <| qM V V V <| qE V V zA0 V <| qC V V V V V <| qN ?_
  refine zJ V (fun h38 => ?_) (fun h38 => ?_)
  ·
   refine zB <| qR V <| qA V V V <| qN <| zI ?_
   exact zR (.inr V) zV4 V (.of_eq (by simp at h38; rw [← he, hge, List.drop_length, drop_at (zC (by omega : a.length < b.length))]; rfl)) (.int _ _) Vv
  ·
   refine zQ <| zB <| qR V <| qA V V V <| qN <| zI ?_
   exact zR (.inr V) zV4 V (.of_eq (by simp at h38; rw [← he, hge, List.drop_length, List.drop_eq_nil_of_le (by omega : b.length ≤ a.length)]; rfl)) (.int _ _) Vv
theorem jTicks_spec (a b : List Tk) (S : MS) : MCalls Tryz.prog 276 [.lst none 2 (a.map encT), .lst none 2 (b.map encT)] S fun v σ' => v = .int .i64 (byTicksF a b) ∧ σ' = S := by
 refine zM Tryz.func276 V Tryz.ntmps276 (zA V) ?_
 refine zB <| qR V <| qA V V V <| qN <| zB <| qR V <| qM V V V <| qM V V V ?_
 refine qX V V V V co287 (jCmpFunc_spec a b _) ?_
 refine qA V V V <| qN <| zI ?_
 exact zR (.inr V) Tryz.results276 V (.of_eq (V)) (.int _ _) Vv
theorem cmpString_spec (a b : Bs) (S : MS) : MCalls Tryz.prog 297 [encX a, encX b] S fun v σ' => v = .int .i64 (cmpX a b) ∧ σ' = S := by
 refine zM Tryz.func297 V Tryz.ntmps297 (zA V) ?_
 refine zB <| qR V <| qA V V V <| qN <| zB <| qR V <| qM V V V <| qM V V V <| qO V <| op_ext V V V (fun g w vs h => run_cmpstr Tryz.func308 (by kernel_rfl) (by kernel_rfl) (by kernel_rfl) (by kernel_rfl) a b g w vs h) V ?_
 refine qA V V V <| qN <| zI ?_
 exact zR (.inr V) Tryz.results297 V (.of_eq (V)) (.int _ _) Vv
theorem strCmp_spec (a b : Bs) (S : MS) : MCalls Tryz.prog 268 [encX a, encX b] S fun v σ' => v = .int .i64 (cmpX a b) ∧ σ' = S := by
 refine zM Tryz.func268 V Tryz.ntmps268 (zA V) ?_
 refine zB <| qR V <| qA V V V <| qN <| zB <| qR V <| qM V V V <| qM V V V ?_
 refine zM5 V (zD1 V V V ⟨_, _, Tryz.func297, by kernel_rfl, rfl⟩ ((cmpString_spec a b _).mono ?_))
 rintro _ _ ⟨rfl, rfl⟩
 refine qA V V V <| qN <| zI ?_
 exact zR (.inr V) Tryz.results268 V (.of_eq (V)) (.int _ _) Vv
theorem cof_none (k : List Tk) (k1 : Int) (i1 : List Sch) (n m : Int) (s : List Bs) (c : List (List Tk)) (w : List Val) (S : MS) : MCalls Tryz.prog 279 [encS (.mk k1 i1), encE encC (k, .mk n m s c w, none)] S fun v σ' => v = encO (some (.mk n m s c w)) ∧ σ' = S := by
 refine zM Tryz.func279 V Tryz.ntmps279 (zA V) ?_
 refine zB <| qR V <| qB V V V V V <| qB V V V V V <| qO V <| zN0 V zm27 V V <| qA V V V <| qN <| zB <| zB <| qR V <| qF V V V fo332_2 <| qL V V V V ta323 V <| qO V <| op_ptr0 V Tryz.underlying323 V V (.inl Vv) <| qN <| zT V (V) <| zB <| qR V <| qF V V V fo332_1 <| qL V V V V ta323 V <| qO V <| zD0 V V V ?_
 refine qO V <| zO V V ta27 V <| qO V <| zC0 V V V V sz27 V V (zA V) V <| qA V V V <| qN <| zI ?_
 exact zN1 (.inr V) Tryz.results279 V V ta27 V (.refl _) (zV1 _ (.mk n m s c w)) V (.refl _) .iface0 Vv
theorem cof_some (k : List Tk) (k1 : Int) (i1 : List Sch) (n m : Int) (s : List Bs) (c : List (List Tk)) (w : List Val) (n2 m2 : Int) (s2 : List Bs) (c2 : List (List Tk)) (w2 : List Val) (o : Option Val) (hb : ∀ S : MS, MCalls Tryz.prog 188 [encS (.mk k1 i1), encV (.mk n m s c w), encV (.mk n2 m2 s2 c2 w2)] S fun v σ' => v = encO o ∧ σ' = S) (S : MS) : MCalls Tryz.prog 279 [encS (.mk k1 i1), encE encC (k, .mk n m s c w, some (.mk n2 m2 s2 c2 w2))] S fun v σ' => v = encO o ∧ σ' = S := by
 obtain ⟨n3, m3, s3, c3, w3, h3⟩ := encO_of o
 have hO : encO o = .tup [encV (.mk n3 m3 s3 c3 w3), errO o] := by rw [encO, h3]
 rw [hO] at hb
 refine zM Tryz.func279 V Tryz.ntmps279 (zA V) ?_
 refine zB <| qR V <| qB V V V V V <| qB V V V V V <| qO V <| zN0 V zm27 V V <| qA V V V <| qN <| zB <| zB <| qR V <| qF V V V fo332_2 <| qL V V V V ta323 V <| qO V <| op_ptrnil V Tryz.underlying323 V V V (.inl Vv) <| qN <| zL V (V) <| zQ <| zB ?_
 refine zX0 [12] [_, S ++ [.cells (encS (.mk k1 i1)).cells, .cells (encE encC (k, .mk n m s c w, some (.mk n2 m2 s2 c2 w2))).cells, .cells (encV (.mk n3 m3 s3 c3 w3)).cells]] mo (by decide) V V V V ?_
 refine dO V V V (zO0 V V V ta53 V Vv) <| dO V V V (zE V V fo332_1 Vv) <| dO V V V (zO0 V V V ta323 V Vv) <| dO V V V (zD0 V V V Vv) <| dO V V V (zO V V ta27 V Vv) <| dO V V V (zE V V fo332_2 Vv) <| dO V V V (zO0 V V V ta323 V Vv) <| dO V V V (zD0 V V V Vv) <| dO V V V (zO V V ta27 V Vv) <| zU V V (.cons (zD1 V V V co188 (hb _)) .nil) <| dO V V V (zJ0 V V V Vv) <| dO V V V (zJ0 V V V Vv) <| zB1 V V V V (zC0 V V V V sz27 V V (zA V) V Vv) <| dO V V V (zF1 V V Vv) <| zP0 <| zI ?_
 exact zN1 (.inr V) Tryz.results279 V V ta27 V (.refl _) (zV1 _ (.mk n3 m3 s3 c3 w3)) V (.refl _) (cl_errO _ _) ⟨hO.symm, rfl⟩
theorem cof_spec (k1 : Int) (i1 : List Sch) (f : Val → Val → Option Val) (e : Ent (List Tk)) (hb : ∀ y, e.2.2 = some y → ∀ S : MS, MCalls Tryz.prog 188 [encS (.mk k1 i1), encV e.2.1, encV y] S fun v σ' => v = encO (f e.2.1 y) ∧ σ' = S) (S : MS) : MCalls Tryz.prog 279 [encS (.mk k1 i1), encE encC e] S fun v σ' => v = encO (ofE f e) ∧ σ' = S := by
 obtain ⟨k, ⟨n, m, s, c, w⟩, o⟩ := e
 cases o with
 | none => exact cof_none k k1 i1 n m s c w S
 | some y =>
  obtain ⟨n2, m2, s2, c2, w2⟩ := y
  exact cof_some k k1 i1 n m s c w n2 m2 s2 c2 w2 _ (hb _ rfl) S
theorem xof_none (k : Bs) (k1 : Int) (i1 : List Sch) (n m : Int) (s : List Bs) (c : List (List Tk)) (w : List Val) (S : MS) : MCalls Tryz.prog 269 [encS (.mk k1 i1), encE encX (k, .mk n m s c w, none)] S fun v σ' => v = encO (some (.mk n m s c w)) ∧ σ' = S := by
 refine zM Tryz.func269 V Tryz.ntmps269 (zA V) ?_
 refine zB <| qR V <| qB V V V V V <| qB V V V V V <| qO V <| zN0 V zm27 V V <| qA V V V <| qN <| zB <| zB <| qR V <| qF V V V fo325_2 <| qL V V V V ta323 V <| qO V <| op_ptr0 V Tryz.underlying323 V V (.inl Vv) <| qN <| zT V (V) <| zB <| qR V <| qF V V V fo325_1 <| qL V V V V ta323 V <| qO V <| zD0 V V V ?_
 refine qO V <| zO V V ta27 V <| qO V <| zC0 V V V V sz27 V V (zA V) V <| qA V V V <| qN <| zI ?_
 exact zN1 (.inr V) Tryz.results269 V V ta27 V (.refl _) (zV1 _ (.mk n m s c w)) V (.refl _) .iface0 Vv
theorem xof_some (k : Bs) (k1 : Int) (i1 : List Sch) (n m : Int) (s : List Bs) (c : List (List Tk)) (w : List Val) (n2 m2 : Int) (s2 : List Bs) (c2 : List (List Tk)) (w2 : List Val) (o : Option Val) (hb : ∀ S : MS, MCalls Tryz.prog 188 [encS (.mk k1 i1), encV (.mk n m s c w), encV (.mk n2 m2 s2 c2 w2)] S fun v σ' => v = encO o ∧ σ' = S) (S : MS) : MCalls Tryz.prog 269 [encS (.mk k1 i1), encE encX (k, .mk n m s c w, some (.mk n2 m2 s2 c2 w2))] S fun v σ' => v = encO o ∧ σ' = S := by
 obtain ⟨n3, m3, s3, c3, w3, h3⟩ := encO_of o
 have hO : encO o = .tup [encV (.mk n3 m3 s3 c3 w3), errO o] := by rw [encO, h3]
 rw [hO] at hb
 refine zM Tryz.func269 V Tryz.ntmps269 (zA V) ?_
 refine zB <| qR V <| qB V V V V V <| qB V V V V V <| qO V <| zN0 V zm27 V V <| qA V V V <| qN <| zB <| zB <| qR V <| qF V V V fo325_2 <| qL V V V V ta323 V <| qO V <| op_ptrnil V Tryz.underlying323 V V V (.inl Vv) <| qN <| zL V (V) <| zQ <| zB ?_
 refine zX0 [12] [_, S ++ [.cells (encS (.mk k1 i1)).cells, .cells (encE encX (k, .mk n m s c w, some (.mk n2 m2 s2 c2 w2))).cells, .cells (encV (.mk n3 m3 s3 c3 w3)).cells]] mo (by decide) V V V V ?_
 refine dO V V V (zO0 V V V ta53 V Vv) <| dO V V V (zE V V fo325_1 Vv) <| dO V V V (zO0 V V V ta323 V Vv) <| dO V V V (zD0 V V V Vv) <| dO V V V (zO V V ta27 V Vv) <| dO V V V (zE V V fo325_2 Vv) <| dO V V V (zO0 V V V ta323 V Vv) <| dO V V V (zD0 V V V Vv) <| dO V V V (zO V V ta27 V Vv) <| zU V V (.cons (zD1 V V V co188 (hb _)) .nil) <| dO V V V (zJ0 V V V Vv) <| dO V V V (zJ0 V V V Vv) <| zB1 V V V V (zC0 V V V V sz27 V V (zA V) V Vv) <| dO V V V (zF1 V V Vv) <| zP0 <| zI ?_
 exact zN1 (.inr V) Tryz.results269 V V ta27 V (.refl _) (zV1 _ (.mk n3 m3 s3 c3 w3)) V (.refl _) (cl_errO _ _) ⟨hO.symm, rfl⟩
theorem xof_spec (k1 : Int) (i1 : List Sch) (f : Val → Val → Option Val) (e : Ent (Bs)) (hb : ∀ y, e.2.2 = some y → ∀ S : MS, MCalls Tryz.prog 188 [encS (.mk k1 i1), encV e.2.1, encV y] S fun v σ' => v = encO (f e.2.1 y) ∧ σ' = S) (S : MS) : MCalls Tryz.prog 269 [encS (.mk k1 i1), encE encX e] S fun v σ' => v = encO (ofE f e) ∧ σ' = S := by
 obtain ⟨k, ⟨n, m, s, c, w⟩, o⟩ := e
 cases o with
 | none => exact xof_none k k1 i1 n m s c w S
 | some y =>
  obtain ⟨n2, m2, s2, c2, w2⟩ := y
  exact xof_some k k1 i1 n m s c w n2 m2 s2 c2 w2 _ (hb _ rfl) S
theorem eIndex_spec (S : MS) (l : List (Ent (List Tk))) (p : Ent (List Tk) → Bool) (kf : FuncId) (first caps : List MV) (hco : CallOk Tryz.prog kf) (hp : ∀ x ∈ l, ∀ X : MS, MCalls Tryz.prog kf (first ++ [encE encC x] ++ caps) (S ++ X) fun v σ' => v = .bool (p x) ∧ σ' = S ++ X) : MCalls Tryz.prog 305 [.lst none 3 (l.map (encE encC)), .fn (.func kf) first caps] S fun v σ' => v = .int .i64 (findGo p 0 l) ∧ σ' = S := by
 refine zM Tryz.func305 V Tryz.ntmps305 (zA V) ?_
 refine zL3 (t := 0) V fun hlen => ?_
 rw [zF] at hlen
 refine zB <| qR V <| qA V V V <| qN <| zB <| zB <| qR V <| qM V V V <| qE V V zM0 V <| qM V V V <| qN <| zX ?_
 refine zS1 (α := Nat) [(0, _), (1, _), (7, _)] (fun i => [(8, .int .i64 (i : Int))]) (fun i => []) (fun i => i ≤ l.length ∧ findGo p i (l.drop i) = findGo p 0 l) (fun i => l.length - i) (0) (.keep V (.keep V (.keep V (.nil)))) (.keep V (.nil)) (⟨by omega, rfl⟩) (V) ?_
 rintro i ⟨hi, he⟩
 refine zB <| qR V <| qC V V V V V <| qN <| zB ?_
 refine zJ V (fun h9 => ?_) (fun h9 => ?_)
 ·
  have hlt : i < l.length := by simpa using h9
  obtain ⟨x, hs⟩ : ∃ q_, l[i]? = some q_ := ⟨_, zC hlt⟩
  refine zQ <| zB <| zX <| zB <| qR V <| qM V V V <| qA V V V <| qN <| zB <| qR V <| qM V V V <| qM V V V <| qM V V V <| qO V <| zK V zM0 sz332 (by decide) V V V (zE1 hs) ?_
  refine qO V <| zO V V ta332 V ?_
  refine zM5 V (zD1 V V V hco ((hp _ (zW hs) _).mono ?_))
  rintro _ _ ⟨rfl, rfl⟩
  refine qN ?_
  refine zJ V (fun h16 => ?_) (fun h16 => ?_)
  ·
   refine zB <| qR V <| qM V V V <| qA V V V <| qN <| zI ?_
   exact zR (.inr V) Tryz.results305 V (.of_eq (by rw [← he, find_at hs, h16]; rfl)) (.int _ _) Vv
  ·
   refine zQ <| qR V <| qO V <| zT0 V V V V <| qM V V V <| qN ?_
   refine ⟨i + 1, by omega, ⟨by omega, by rw [← he, find_at hs, h16]; rfl⟩, rfl, (.keep V (.keep V (.keep V (.nil)))), (.eq V (zQ1 hlt hlen) (.nil))⟩
 ·
  have hge : i = l.length := by simp at h9; omega
  refine zM1 <| zB <| qR V <| qA V V V <| qN <| zI ?_
  exact zR (.inr V) Tryz.results305 V (.of_eq (by rw [← he, hge, List.drop_length]; rfl)) (.int _ _) Vv
theorem eContains_spec (S : MS) (l : List (Ent (List Tk))) (p : Ent (List Tk) → Bool) (kf : FuncId) (first caps : List MV) (hco : CallOk Tryz.prog kf) (hp : ∀ x ∈ l, ∀ X : MS, MCalls Tryz.prog kf (first ++ [encE encC x] ++ caps) (S ++ X) fun v σ' => v = .bool (p x) ∧ σ' = S ++ X) : MCalls Tryz.prog 277 [.lst none 3 (l.map (encE encC)), .fn (.func kf) first caps] S fun v σ' => v = .bool (l.any p) ∧ σ' = S := by
 refine zM Tryz.func277 V Tryz.ntmps277 (zA V) ?_
 refine zB <| qR V <| qA V V V <| qN <| zB <| qR V <| qM V V V <| qM V V V ?_
 refine qX V V V V co305 (eIndex_spec (S ++ []) l p kf first caps hco (by rw [List.append_nil]; exact hp)) ?_
 refine qC V V V V V <| qA V V V <| qN <| zI ?_
 exact zR (.inr V) Tryz.results277 V (.of_eq (by rw [find_any p 0 l])) (.bool _) Vv
theorem causes1_spec (e o : Ent (List Tk)) (h : e.1.length + o.1.length ≤ 1000000) (id : Nat) (S : MS) (hS : S[id]? = some (.cells (encE encC e).cells)) : MCalls Tryz.prog 278 [encE encC o, .ref id 0] S fun v σ' => v = .bool (decide (cmpF e.1 o.1 = -1)) ∧ σ' = S := by
 refine zM Tryz.func278 V Tryz.ntmps278 (zA V) ?_
 refine zB <| qR V <| qB V V V V V <| qA V V V <| qN <| zB <| qR V <| qF V V V zT6 <| qO V <| zP1 V V hS ta202 V <| qF V V V zT6 <| qL V V V V ta202 V ?_
 refine qX V V V V co252 (clkCmp_spec e.1 o.1 h _) ?_
 refine qC V V V V V <| qA V V V <| qN <| zI ?_
 exact zR (.inr V) Tryz.results278 V (.of_eq (V)) (.bool _) Vv
theorem isLarge_spec (n m : Int) (s : List Bs) (c : List (List Tk)) (w : List Val) (S : MS) : MCalls Tryz.prog 234 [encV (.mk n m s c w)] S fun v σ' => v = .bool (largeF (.mk n m s c w)) ∧ σ' = S := by
 refine zM Tryz.func234 V Tryz.ntmps234 (zA V) ?_
 refine zB <| qR V <| qB V V V V V <| qA V V V <| qN <| zB <| qR V <| qF V V V zC3 <| qL V V V V ta23 V <| qE V V zB0 V <| qF V V V zT2 <| qL V V V V ta24 V <| qE V V zE0 V <| qF V V V zI2 <| qL V V V V ta25 V <| qE V V zI0 V ?_
 rw [zU0, zF, zF]
 refine qO V <| op_max3 V V V V V <| qC V V V V V <| qM V V V ?_
 refine zZ (fun h14 => ?_) (fun h14 => ?_)
 ·
  refine qT V V V V <| qT V V V V <| qT V V V V <| qP V V V V <| qA V V V <| qN <| zI ?_
  exact zR (.inr V) Tryz.results234 V (.of_eq (by rw [large_eq]; congr 1; rw [zH]; first | (simp_all; done) | (simp_all; omega))) (.bool _) Vv
 ·
  refine qF V V V zT2 <| qL V V V V ta24 V <| qE V V zE0 V <| qC V V V V V <| qM V V V ?_
  refine zZ (fun h19 => ?_) (fun h19 => ?_)
  ·
   obtain ⟨c0, rfl⟩ := one_of (by rw [zF] at h19; simp at h19; omega : c.length = 1)
   refine qF V V V zT2 <| qL V V V V ta24 V <| qO V <| zK V zE0 sz202 (by decide) V V V (show _ = some (encC c0) from V) ?_
   refine qO V <| zO V V ta202 V <| qE V V zA0 V <| qC V V V V V <| qP V V V V <| qP V V V V <| qA V V V <| qN <| zI ?_
   exact zR (.inr V) Tryz.results234 V (.of_eq (by rw [large_eq]; congr 1; rw [zH]; first | (simp_all; done) | (simp_all; omega))) (.bool _) Vv
  ·
   refine qT V V V V <| qS V <| qS V <| qP V V V V <| qP V V V V <| qA V V V <| qN <| zI ?_
   exact zR (.inr V) Tryz.results234 V (.of_eq (by rw [large_eq]; congr 1; rw [zH]; first | (simp_all; done) | (simp_all; omega))) (.bool _) Vv
theorem _root_.zL5 : type_of% @isLarge_spec := @isLarge_spec
theorem later_spec (n1 m1 : Int) (s1 : List Bs) (c1 : List (List Tk)) (w1 : List Val) (n2 m2 : Int) (s2 : List Bs) (c2 : List (List Tk)) (w2 : List Val) (S : MS) : MCalls Tryz.prog 231 [encV (.mk n1 m1 s1 c1 w1), encV (.mk n2 m2 s2 c2 w2)] S fun v σ' => v = encV (laterF (.mk n1 m1 s1 c1 w1) (.mk n2 m2 s2 c2 w2)) ∧ σ' = S := by
 refine zM Tryz.func231 V Tryz.ntmps231 (zA V) ?_
 refine zB <| qR V <| qB V V V V V <| qB V V V V V <| qO V <| zN0 V zm27 V V <| qN <| zB <| zB ?_
 rcases s1 with _ | ⟨x, s1⟩ <;> rcases s2 with _ | ⟨y, s2⟩
 ·
  refine zX0 [] [_] mo (by decide) V V V V ?_
  refine dO V V V (zE V V zC3 Vv) <| dO V V V (zO0 V V V ta23 V Vv) <| dO V V V (zW1 V zB0 V Vv) <| dO V V V (zW2 V V V (eq_nil) Vv) <| dO V V V (zY V V Vv) <| dS V V <| dS V V <| dS V V <| dS V V <| dS V V <| dS V V <| dS V V <| dS V V <| dS V V <| dS V V <| dS V V <| dS V V <| dS V V <| dS V V <| dS V V <| dS V V <| dS V V <| dS V V <| dS V V <| dS V V <| dS V V <| dS V V <| dS V V <| dS V V <| dS V V ?_
  refine dS V V <| dS V V <| dS V V <| dO V V V (zO1 V V V Vv) <| zP0 <| zT V (V) <| zB <| qR V <| qL V V V V ta27 V <| qO V <| zC0 V V V V sz27 V V (zA V) V <| qN <| zI ?_
  exact zK2 (.inr V) Tryz.results231 V V ta27 V (.refl _) (zV1 _ (.mk n2 m2 [] c2 w2)) ⟨by rw [show laterF (.mk n1 m1 [] c1 w1) (.mk n2 m2 [] c2 w2) = .mk n2 m2 [] c2 w2 from if_pos (.inl V)]; rfl, rfl⟩
 ·
  refine zX0 [] [_] mo (by decide) V V V V ?_
  refine dO V V V (zE V V zC3 Vv) <| dO V V V (zO0 V V V ta23 V Vv) <| dO V V V (zW1 V zB0 V Vv) <| dO V V V (zW2 V V V (eq_nil) Vv) <| dO V V V (zY V V Vv) <| dS V V <| dS V V <| dS V V <| dS V V <| dS V V <| dS V V <| dS V V <| dS V V <| dS V V <| dS V V <| dS V V <| dS V V <| dS V V <| dS V V <| dS V V <| dS V V <| dS V V <| dS V V <| dS V V <| dS V V <| dS V V <| dS V V <| dS V V <| dS V V <| dS V V ?_
  refine dS V V <| dS V V <| dS V V <| dO V V V (zO1 V V V Vv) <| zP0 <| zT V (V) <| zB <| qR V <| qL V V V V ta27 V <| qO V <| zC0 V V V V sz27 V V (zA V) V <| qN <| zI ?_
  exact zK2 (.inr V) Tryz.results231 V V ta27 V (.refl _) (zV1 _ (.mk n2 m2 (y :: s2) c2 w2)) ⟨by rw [show laterF (.mk n1 m1 [] c1 w1) (.mk n2 m2 (y :: s2) c2 w2) = .mk n2 m2 (y :: s2) c2 w2 from if_pos (.inl V)]; rfl, rfl⟩
 ·
  refine zX0 [] [_] mo (by decide) V V V V ?_
  refine dO V V V (zE V V zC3 Vv) <| dO V V V (zO0 V V V ta23 V Vv) <| dO V V V (zW1 V zB0 V Vv) <| dO V V V (zW2 V V V (eq_cons) Vv) <| dO V V V (zY V V Vv) <| dO V V V (zE V V zC3 Vv) <| dO V V V (zO0 V V V ta23 V Vv) <| dO V V V (zW1 V zB0 V Vv) <| dO V V V (zW2 V V V (gt_nil) Vv) <| dO V V V (zY V V Vv) <| dS V V <| dS V V <| dS V V <| dS V V <| dS V V <| dS V V <| dS V V <| dS V V <| dS V V <| dS V V <| dS V V <| dS V V <| dS V V <| dS V V <| dS V V <| dS V V <| dS V V <| dS V V <| dS V V <| dS V V ?_
  refine dS V V <| dS V V <| dO V V V (zO1 V V V Vv) <| dO V V V (zO1 V V V Vv) <| zP0 <| zL V (V) <| zQ <| zB <| qR V <| qL V V V V ta27 V <| qO V <| zC0 V V V V sz27 V V (zA V) V <| qN <| zI ?_
  exact zK2 (.inr V) Tryz.results231 V V ta27 V (.refl _) (zV1 _ (.mk n1 m1 (x :: s1) c1 w1)) ⟨by rw [show laterF (.mk n1 m1 (x :: s1) c1 w1) (.mk n2 m2 [] c2 w2) = .mk n1 m1 (x :: s1) c1 w1 from if_neg (by simp [Val.sv])]; rfl, rfl⟩
 ·
  refine zX0 [] [_] mo (by decide) V V V V ?_
  refine dO V V V (zE V V zC3 Vv) <| dO V V V (zO0 V V V ta23 V Vv) <| dO V V V (zW1 V zB0 V Vv) <| dO V V V (zW2 V V V (eq_cons) Vv) <| dO V V V (zY V V Vv) <| dO V V V (zE V V zC3 Vv) <| dO V V V (zO0 V V V ta23 V Vv) <| dO V V V (zW1 V zB0 V Vv) <| dO V V V (zW2 V V V (gt_cons) Vv) <| dO V V V (zY V V Vv) <| dO V V V (zE V V zC5 Vv) <| dO V V V (zO0 V V V ta22 V Vv) <| dO V V V (zE V V zC5 Vv) <| dO V V V (zO0 V V V ta22 V Vv) <| zU V V (.cons (zD1 V V V co271 (compareu_spec n1 n2 _)) .nil) <| dO V V V (zE V V zI6 Vv) <| dO V V V (zO0 V V V ta22 V Vv) <| dO V V V (zE V V zI6 Vv) <| dO V V V (zO0 V V V ta22 V Vv) <| zU V V (.cons (zD1 V V V co271 (compareu_spec m1 m2 _)) .nil) <| dO V V V (zE V V zC3 Vv) <| dO V V V (zO0 V V V ta23 V Vv) <| dO V V V (zK V zB0 sz9 (by decide) V V V (show _ = some (encX x) from V) Vv) ?_
  refine dO V V V (zO V V ta9 V Vv) <| dO V V V (zE V V zC3 Vv) <| dO V V V (zO0 V V V ta23 V Vv) <| dO V V V (zK V zB0 sz9 (by decide) V V V (show _ = some (encX y) from V) Vv) ?_
  refine dO V V V (zO V V ta9 V Vv) <| zU V V (.cons (zD1 V V V co268 (strCmp_spec x y _)) .nil) <| dO V V V (zJ1 V zN6 el3 V V (by decide) (by decide) V V Vv) ?_
  refine zU V V (.cons (zD1 V V V co270 (cmpOr_spec [cmpI n1 n2, cmpI m1 m2, cmpX x y] _)) .nil) <| dO V V V (zW2 V V V V Vv) <| dO V V V (zO1 V V V Vv) <| dO V V V (zO1 V V V Vv) <| zP0 ?_
  refine zJ V (fun h38 => ?_) (fun h38 => ?_)
  ·
   refine zB <| qR V <| qL V V V V ta27 V <| qO V <| zC0 V V V V sz27 V V (zA V) V <| qN <| zI ?_
   exact zK2 (.inr V) Tryz.results231 V V ta27 V (.refl _) (zV1 _ (.mk n2 m2 (y :: s2) c2 w2)) ⟨by rw [show laterF (.mk n1 m1 (x :: s1) c1 w1) (.mk n2 m2 (y :: s2) c2 w2) = .mk n2 m2 (y :: s2) c2 w2 from if_pos (.inr ⟨by simp [Val.sv], by rw [or_three] at h38; simpa [laterC, Val.nv, Val.mv, Val.sv] using h38⟩)]; rfl, rfl⟩
  ·
   refine zQ <| zB <| qR V <| qL V V V V ta27 V <| qO V <| zC0 V V V V sz27 V V (zA V) V <| qN <| zI ?_
   exact zK2 (.inr V) Tryz.results231 V V ta27 V (.refl _) (zV1 _ (.mk n1 m1 (x :: s1) c1 w1)) ⟨by rw [show laterF (.mk n1 m1 (x :: s1) c1 w1) (.mk n2 m2 (y :: s2) c2 w2) = .mk n1 m1 (x :: s1) c1 w1 from if_neg (by rw [or_three] at h38; simpa [laterC, Val.nv, Val.mv, Val.sv] using h38)]; rfl, rfl⟩
theorem clocks_spec (n1 m1 : Int) (s1 : List Bs) (c1 : List (List Tk)) (w1 : List Val) (n2 m2 : Int) (s2 : List Bs) (c2 : List (List Tk)) (w2 : List Val) (hl : ∀ x ∈ c1, ∀ y ∈ c2, x.length + y.length ≤ 1000000) (S : MS) : MCalls Tryz.prog 232 [encV (.mk n1 m1 s1 c1 w1), encV (.mk n2 m2 s2 c2 w2)] S fun v σ' => v = encV (clocksF (.mk n1 m1 s1 c1 w1) (.mk n2 m2 s2 c2 w2)) ∧ σ' = S := by
 refine zM Tryz.func232 V Tryz.ntmps232 (zA V) ?_
 refine zB <| qR V <| qB V V V V V <| qB V V V V V <| qO V <| zN0 V zm27 V V <| qN <| zB <| zX <| zB ?_
 rcases c1 with _ | ⟨x, c1⟩ <;> rcases c2 with _ | ⟨y, c2⟩
 ·
  refine qR V <| qF V V V zT2 <| qL V V V V ta24 V <| qE V V zE0 V <| qC V V V V (eq_nil) <| qA V V V <| qN <| zT V (V) <| zB <| qR V <| qL V V V V ta27 V <| qO V <| zC0 V V V V sz27 V V (zA V) V <| qN <| zI ?_
  exact zK2 (.inr V) Tryz.results232 V V ta27 V (.refl _) (zV1 _ (.mk n2 m2 s2 [] w2)) Vv
 ·
  refine qR V <| qF V V V zT2 <| qL V V V V ta24 V <| qE V V zE0 V <| qC V V V V (eq_nil) <| qA V V V <| qN <| zT V (V) <| zB <| qR V <| qL V V V V ta27 V <| qO V <| zC0 V V V V sz27 V V (zA V) V <| qN <| zI ?_
  exact zK2 (.inr V) Tryz.results232 V V ta27 V (.refl _) (zV1 _ (.mk n2 m2 s2 (y :: c2) w2)) Vv
 ·
  refine qR V <| qF V V V zT2 <| qL V V V V ta24 V <| qE V V zE0 V <| qC V V V V (eq_cons) <| qA V V V <| qN <| zL V (V) <| zB <| qR V <| qF V V V zT2 <| qL V V V V ta24 V <| qE V V zE0 V <| qC V V V V (eq_nil) <| qA V V V <| qN <| zT V (V) <| zB <| qR V <| qL V V V V ta27 V ?_
  refine qO V <| zC0 V V V V sz27 V V (zA V) V <| qN <| zI ?_
  exact zK2 (.inr V) Tryz.results232 V V ta27 V (.refl _) (zV1 _ (.mk n1 m1 s1 (x :: c1) w1)) Vv
 ·
  refine qR V <| qF V V V zT2 <| qL V V V V ta24 V <| qE V V zE0 V <| qC V V V V (eq_cons) <| qA V V V <| qN <| zL V (V) <| zB <| qR V <| qF V V V zT2 <| qL V V V V ta24 V <| qE V V zE0 V <| qC V V V V (eq_cons) <| qA V V V <| qN <| zL V (V) <| zQ <| zB ?_
  refine zX0 [11] [_, S ++ [.cells (encV (.mk n1 m1 s1 (x :: c1) w1)).cells, .cells (encV (.mk n2 m2 s2 (y :: c2) w2)).cells, .cells [.int .u64 0, .int .u64 0, .lst0, .lst none 1 [encC (joinF x y)], .lst0]]] mo (by decide) V V V V ?_
  refine dO V V V (zE V V zT2 Vv) <| dO V V V (zO0 V V V ta24 V Vv) <| dO V V V (zK V zE0 sz202 (by decide) V V V (show _ = some (encC x) from V) Vv) ?_
  refine dO V V V (zO V V ta202 V Vv) <| dO V V V (zE V V zT2 Vv) <| dO V V V (zO0 V V V ta24 V Vv) <| dO V V V (zK V zE0 sz202 (by decide) V V V (show _ = some (encC y) from V) Vv) ?_
  refine dO V V V (zO V V ta202 V Vv) <| zU V V (.cons (zD1 V V V co272 (clkJoin_spec x y (hl x (by simp) y (by simp)) _)) .nil) ?_
  refine dO V V V (zJ1 V zE0 el202 V V (by decide) (by decide) V V Vv) ?_
  refine dO V V V (zA1 V zU1 zm27 (.cons zT2 sz24 V V (zA V) .nil) (by kernel_rfl) Vv) ?_
  refine zB1 V V V V (zC0 V V V V sz27 V V (zA V) V Vv) <| zP0 <| zI ?_
  exact zK2 (.inr V) Tryz.results232 V V ta27 V (.agg (.cons (.refl _) (.cons (.refl _) (.cons (.nil 1) (.cons (.refl _) (.cons (.nil 5) .nil)))))) (zV1 _ (.mk 0 0 [] [joinF x y] [])) Vv
theorem stJ_fl {cmp : List Tk → List Tk → Int} {a b : List (REnt (List Tk))} {S : MS} (A : MS) {x y z : MObj} {j : Nat} : stJ cmp a b (S ++ (A ++ [x, y, z])) (S ++ A).length ((S ++ A).length + 1) j = S ++ (A ++ [.cells [.lst none 3 ((restE cmp a b j).1.map (encR encC))], .cells [.lst none 3 ((restE cmp a b j).2.map (encR encC))], z]) := by
 unfold stJ
 rw [← zN, List.set_append_right _ _ (Nat.le_refl _), Nat.sub_self, List.set_append_right _ _ (by simp), ← zN]
 simp
theorem get_fl {S : MS} (A : MS) {B : MS} (k : Nat) {o : MObj} (h : B[k]? = some o) : (S ++ (A ++ B))[(S ++ A).length + k]? = some o := by
 rw [← zN, getElem?_own]
 exact h
theorem cl_outC {acc : List (List Tk × Val)} {t u n : Nat} (ht : t < n) (hu : u < n) : (MObj.cells [.int .u64 0, .int .u64 0, .lst0, .lst (some t) 1 (acc.map fun e => encC e.1), .lst (some u) 5 (acc.map fun e => encV e.2)]).cl n := by
 intro x hx
 simp only [List.mem_cons, List.not_mem_nil, or_false] at hx
 rcases hx with rfl | rfl | rfl | rfl | rfl
 ·exact .int _ _
 ·exact .int _ _
 ·exact .lst0
 ·exact zC6 ht (fun e : List Tk × Val => cl_encC n e.1) (fun e => .inr rfl)
 ·exact zC6 hu (fun e : List Tk × Val => zV1 n e.2) (fun e => by cases e.2; exact .inl rfl)
theorem one_encE (e : Ent (List Tk)) : (encE encC e).cells.all MV.one = true := by obtain ⟨k, v, o⟩ := e; cases o <;> rfl
theorem filt_snoc {α : Type} {l : List α} {p : α → Bool} {i : Nat} {a : α} (h : l[i]? = some a) : (l.take (i + 1)).filter p = (l.take i).filter p ++ (if p a then [a] else []) := by
 rw [List.take_add_one, h, Option.toList_some, List.filter_append]
 congr 1
 simp [List.filter_cons]
theorem goE_snoc {κ : Type} {f : Val → Val → Option Val} {a : List (Ent κ)} {x : List (κ × Val)} {e : Ent κ} {v : Val} (h : goE f a = some x) (he : ofE f e = some v) : goE f (a ++ [e]) = some (x ++ [(e.1, v)]) := by
 rw [goE_append, h]
 simp [goE, he]
theorem goE_bad {κ : Type} {f : Val → Val → Option Val} : ∀ {a : List (Ent κ)} {e : Ent κ}, e ∈ a → ofE f e = none → goE f a = none
 | x :: a, e, h, he => by
  rw [goE]
  rcases List.mem_cons.1 h with rfl | h
  ·rw [he]
  ·rw [goE_bad h he]
   cases ofE f x <;> rfl
theorem filt_len {α : Type} (l : List α) (p : α → Bool) (i : Nat) : ((l.take i).filter p).length ≤ i := Nat.le_trans (List.length_filter_le _ _) (by rw [List.length_take]; omega)
theorem zip_mem1 {α β : Type} {a : List α} {b : List β} {x : α} {y : β} (h : (x, y) ∈ a.zip b) : x ∈ a := (List.of_mem_zip h).1
theorem zip_mem2 {α β : Type} {a : List α} {b : List β} {x : α} {y : β} (h : (x, y) ∈ a.zip b) : y ∈ b := (List.of_mem_zip h).2
theorem _root_.zG0 : type_of% @Tryz.underlying43 := @Tryz.underlying43
theorem causes_spec (k k1 : Int) (i1 rest : List Sch) (f : Val → Val → Option Val) (n1 m1 : Int) (s1 : List Bs) (c1 : List (List Tk)) (w1 : List Val) (n2 m2 : Int) (s2 : List Bs) (c2 : List (List Tk)) (w2 : List Val) (hl1 : c1.length = w1.length) (hl2 : c2.length = w2.length) (h1 : c1.length ≤ 40) (h2 : c2.length ≤ 40) (hk1 : ∀ x ∈ c1, x.length ≤ 1000) (hk2 : ∀ x ∈ c2, x.length ≤ 1000) (hb : ∀ x ∈ w1, ∀ y ∈ w2, ∀ S : MS, MCalls Tryz.prog 188 [encS (.mk k1 i1), encV x, encV y] S fun v σ' => v = encO (f x y) ∧ σ' = S) (S : MS) : MCalls Tryz.prog 233 [encS (.mk k (.mk k1 i1 :: rest)), encV (.mk n1 m1 s1 c1 w1), encV (.mk n2 m2 s2 c2 w2)] S fun v σ' => v = encO (causesF f (.mk n1 m1 s1 c1 w1) (.mk n2 m2 s2 c2 w2)) ∧ σ' = S := by
 refine zM Tryz.func233 V Tryz.ntmps233 (zA V) ?_
 generalize hl : mergedC (.mk n1 m1 s1 c1 w1) (.mk n2 m2 s2 c2 w2) = l
 have hll : l.length ≤ 80 := by rw [← hl]; have := mergeE_len byTicksF (c1.zip w1) (c2.zip w2); simp only [mergedC, entC, Val.cv, Val.vv, List.length_zip] at *; omega
 have hlen : l.length ≤ maxLen := by simp only [maxLen]; omega
 have hmem : ∀ e ∈ l, e.1.length ≤ 1000 ∧ ∀ y, e.2.2 = some y → e.2.1 ∈ w1 ∧ y ∈ w2 := fun e h => by
  obtain ⟨p, q⟩ := mergeE_mem _ _ _ e (by rw [← hl] at h; exact h)
  refine ⟨p.elim (fun h => hk1 _ (zip_mem1 h)) (fun h => hk2 _ (zip_mem1 h)), fun y hy => ?_⟩
  obtain ⟨q1, k, q2⟩ := q y hy
  exact ⟨zip_mem2 q1, zip_mem2 q2⟩
 refine zB <| qR V <| qB V V V V V <| qB V V V V V <| qB V V V V V <| qO V <| zN0 V zm27 V V <| qA V V V <| qN <| zB ?_
 refine zX0 [10, 11] [_, S ++ [.cells (encS (.mk k (.mk k1 i1 :: rest))).cells, .cells (encV (.mk n1 m1 s1 c1 w1)).cells, .cells (encV (.mk n2 m2 s2 c2 w2)).cells, .cells [.int .u64 0, .int .u64 0, .lst0, .lst0, .lst0], .cells [.lst none 3 ((c1.zip w1).map (encR encC))], .cells [.lst none 3 ((c2.zip w2).map (encR encC))], .cells [.fn (.func 276) [] []]], S ++ [.cells (encS (.mk k (.mk k1 i1 :: rest))).cells, .cells (encV (.mk n1 m1 s1 c1 w1)).cells, .cells (encV (.mk n2 m2 s2 c2 w2)).cells, .cells [.int .u64 0, .int .u64 0, .lst0, .lst0, .lst0], .cells [.lst none 3 ((restE byTicksF (c1.zip w1) (c2.zip w2) (mergedC (.mk n1 m1 s1 c1 w1) (.mk n2 m2 s2 c2 w2)).length).1.map (encR encC))], .cells [.lst none 3 ((restE byTicksF (c1.zip w1) (c2.zip w2) (mergedC (.mk n1 m1 s1 c1 w1) (.mk n2 m2 s2 c2 w2)).length).2.map (encR encC))], .cells [.fn (.func 276) [] []]]] mo (by decide) V V V V ?_
 refine zU V V (.cons (zE V V zT2 Vv) (.cons (zE V V zT2 Vv) (.cons (zE V V zT2 Vv) (.nil)))) <| zU V V (.cons (zO0 V V V ta24 V Vv) (.cons (zO0 V V V ta24 V Vv) (.cons (zO0 V V V ta24 V Vv) (.nil)))) <| zU V V (.cons (zE V V zI2 Vv) (.cons (zE V V zI2 Vv) (.cons (zE V V zI2 Vv) (.nil)))) <| zU V V (.cons (zO0 V V V ta25 V Vv) (.cons (zO0 V V V ta25 V Vv) (.cons (zO0 V V V ta25 V Vv) (.nil)))) <| zU V V (.cons (zD1 V V V co275 (crow_spec c1 w1 hl1 (by omega) _)) .nil) ?_
 refine zU V V (.cons (zE V V zT2 Vv) (.cons (zE V V zT2 Vv) (.cons (zE V V zT2 Vv) (.nil)))) <| zU V V (.cons (zO0 V V V ta24 V Vv) (.cons (zO0 V V V ta24 V Vv) (.cons (zO0 V V V ta24 V Vv) (.nil)))) <| zU V V (.cons (zE V V zI2 Vv) (.cons (zE V V zI2 Vv) (.cons (zE V V zI2 Vv) (.nil)))) <| zU V V (.cons (zO0 V V V ta25 V Vv) (.cons (zO0 V V V ta25 V Vv) (.cons (zO0 V V V ta25 V Vv) (.nil)))) <| zU V V (.cons (zD1 V V V co275 (crow_spec c2 w2 hl2 (by omega) _)) .nil) ?_
 refine zB1 V V V V (zD1 V V V co274 ((cmerged_spec (c1.zip w1) (c2.zip w2) _ _).mono fun _ _ h => ⟨h.1, h.2.trans (zN ..)⟩)) ?_
 refine zB1 V V V V (zD1 V V V co273 ((collect_spec (c1.zip w1) (c2.zip w2) (by rw [List.length_zip, List.length_zip]; omega) 276 byTicksF co276 (fun a b S => jTicks_spec a b S) _ _ _ (by omega) (by omega) (by omega) _ (get_fl [_, _, _, _] 0 V) (get_fl [_, _, _, _] 1 V) (get_fl [_, _, _, _] 2 V)).mono fun _ _ h => ⟨h.1.trans (congrArg (fun z => MV.lst none 3 (z.map (encE encC))) hl), h.2.trans (stJ_fl [_, _, _, _])⟩)) ?_
 refine dO V V V (zF1 V V Vv) <| zP0 <| zB <| qR V <| qO V <| zN0 V zm27 V V <| qN <| zB <| zB <| qR V <| qM V V V <| qE V V zM0 V <| qM V V V <| qN <| zX <| mwp_cellrowAt 7 3 202 1 V V (Nat.le_refl _) V V <| mwp_cellrowAt 7 4 27 5 V V (Nat.le_refl _) V V ?_
 refine zD4 (α := Nat × List (List Tk × Val)) [(3, _), (6, _), (8, _), (9, _), (26, _), (27, _)] (fun x => [(28, .int .i64 (x.1 : Int))]) (fun x => [.cells (encS (.mk k (.mk k1 i1 :: rest))).cells, .cells (encV (.mk n1 m1 s1 c1 w1)).cells, .cells (encV (.mk n2 m2 s2 c2 w2)).cells, .cells [.int .u64 0, .int .u64 0, .lst0, .lst0, .lst0], .cells [.lst none 3 ((restE byTicksF (c1.zip w1) (c2.zip w2) (mergedC (.mk n1 m1 s1 c1 w1) (.mk n2 m2 s2 c2 w2)).length).1.map (encR encC))], .cells [.lst none 3 ((restE byTicksF (c1.zip w1) (c2.zip w2) (mergedC (.mk n1 m1 s1 c1 w1) (.mk n2 m2 s2 c2 w2)).length).2.map (encR encC))], .cells [.fn (.func 276) [] []], .cells [.int .u64 0, .int .u64 0, .lst0, .lst (some (S.length + 8)) 1 ((x.2.map fun e => encC e.1)), .lst (some (S.length + 9)) 5 ((x.2.map fun e => encV e.2))], .row 202 1 x.2.length, .row 27 5 x.2.length]) (fun x => x.1 ≤ l.length ∧ goE f ((l.take x.1).filter (fun e => !seenE l e)) = some x.2) (fun x => l.length - x.1) (⟨0, []⟩) (Nat.le_refl _) (.keep V (.keep V (.keep V (.keep V (.keep V (.keep V (.nil))))))) (.keep V (.nil)) (⟨by simp, rfl⟩) (V) ?_
 rintro ⟨i, acc⟩ ⟨hi, he⟩
 dsimp only at hi he ⊢
 have hal : acc.length ≤ 1000 := by have h1 := goE_len he; have h2 := filt_len l (fun e => !seenE l e) i; omega
 refine zB <| qR V <| qC V V V V V <| qN <| zB ?_
 refine zJ V (fun h29 => ?_) (fun h29 => ?_)
 ·
  have hlt : i < l.length := by simpa using h29
  obtain ⟨e, hs⟩ : ∃ q_, l[i]? = some q_ := ⟨_, zC hlt⟩
  refine zQ <| zB <| zX <| zB <| qR V <| qO V <| zK V zM0 sz332 (by decide) V V V (zE1 hs) ?_
  refine qO V <| zO V V ta332 V <| qO V <| zN0 V zm332 V V <| qO V <| zC0 V V V V sz332 V (one_encE e) (zA V) V <| qN <| zB <| zB <| qR V <| qM V V V <| qO V <| zO2 V V V ?_
  refine qX V V V V co277 (eContains_spec _ l (fun o => decide (cmpF e.1 o.1 = -1)) _ [] [.ref (S.length + 10) 0] co278 (fun x hx X => causes1_spec e x (by have h1 := (hmem e (zW hs)).1; have h2 := (hmem x hx).1; omega) _ _ (zF5 (k := 10) V))) ?_
  refine qN ?_
  refine zJ V (fun h34 => ?_) (fun h34 => ?_)
  ·
   refine zM1 <| qR V <| qO V <| zT0 V V V V <| qM V V V <| qN ?_
   refine ⟨⟨i + 1, acc⟩, _, by dsimp only; omega, ⟨by dsimp only; omega, by dsimp only; rw [filt_snoc hs, if_neg (by simp [seenE, show (l.any fun o => decide (cmpF e.1 o.1 = -1)) = true from h34]), List.append_nil]; exact he⟩, rfl, LTo.refl _ _, (.old V V (.old V V (.old V V (.old V V (.old V V (.old V V (.nil))))))), (.new' V (zQ1 hlt hlen) (.int _ _) (.nil))⟩
  ·
   refine zQ <| zB ?_
   have hof := fun S => cof_spec k1 i1 f e (fun y hy S => hb _ ((hmem e (zW hs)).2 y hy).1 y ((hmem e (zW hs)).2 y hy).2 S) S
   rcases hf : ofE f e with _ | ⟨⟨n3, m3, s3, c3, w3⟩⟩ <;> rw [hf] at hof
   ·
    refine zX0 [9, 10] [_, S ++ [.cells (encS (.mk k (.mk k1 i1 :: rest))).cells, .cells (encV (.mk n1 m1 s1 c1 w1)).cells, .cells (encV (.mk n2 m2 s2 c2 w2)).cells, .cells [.int .u64 0, .int .u64 0, .lst0, .lst0, .lst0], .cells [.lst none 3 ((restE byTicksF (c1.zip w1) (c2.zip w2) (mergedC (.mk n1 m1 s1 c1 w1) (.mk n2 m2 s2 c2 w2)).length).1.map (encR encC))], .cells [.lst none 3 ((restE byTicksF (c1.zip w1) (c2.zip w2) (mergedC (.mk n1 m1 s1 c1 w1) (.mk n2 m2 s2 c2 w2)).length).2.map (encR encC))], .cells [.fn (.func 276) [] []], .cells [.int .u64 0, .int .u64 0, .lst0, .lst (some (S.length + 8)) 1 ((acc.map fun e => encC e.1)), .lst (some (S.length + 9)) 5 ((acc.map fun e => encV e.2))], .row 202 1 acc.length, .row 27 5 acc.length, .cells (encE encC e).cells, .cells [.int .u64 0, .int .u64 0, .lst0, .lst0, .lst0]], S ++ [.cells (encS (.mk k (.mk k1 i1 :: rest))).cells, .cells (encV (.mk n1 m1 s1 c1 w1)).cells, .cells (encV (.mk n2 m2 s2 c2 w2)).cells, .cells [.int .u64 0, .int .u64 0, .lst0, .lst0, .lst0], .cells [.lst none 3 ((restE byTicksF (c1.zip w1) (c2.zip w2) (mergedC (.mk n1 m1 s1 c1 w1) (.mk n2 m2 s2 c2 w2)).length).1.map (encR encC))], .cells [.lst none 3 ((restE byTicksF (c1.zip w1) (c2.zip w2) (mergedC (.mk n1 m1 s1 c1 w1) (.mk n2 m2 s2 c2 w2)).length).2.map (encR encC))], .cells [.fn (.func 276) [] []], .cells [.int .u64 0, .int .u64 0, .lst0, .lst (some (S.length + 8)) 1 ((acc.map fun e => encC e.1)), .lst (some (S.length + 9)) 5 ((acc.map fun e => encV e.2))], .row 202 1 acc.length, .row 27 5 acc.length, .cells (encE encC e).cells, .cells (encV noV).cells]] mo (by decide) V V V V ?_
    refine zU V V (.cons (zE V V zS3 Vv) (.cons (zE V V zS3 Vv) (.nil))) <| zU V V (.cons (zO0 V V V ta51 V Vv) (.cons (zO0 V V V ta51 V Vv) (.nil))) <| zU V V (.cons (zK V zQ0 sz53 (by decide) V V V (show _ = some (encS (.mk k1 i1)) from V) Vv) (.cons (zK V zQ0 sz53 (by decide) V V V (show _ = some (encS (.mk k1 i1)) from V) Vv) (.nil))) ?_
    refine zU V V (.cons (zO V V ta53 V Vv) (.cons (zO V V ta53 V Vv) (.nil))) <| zU V V (.cons (zO0 V V V ta332 V Vv) (.cons (zO0 V V V ta332 V Vv) (.nil))) <| zU V V (.cons (zD1 V V V co279 (hof _)) (.cons (zD1 V V V co279 (hof _)) (.nil))) <| zU V V (.cons (zY V V Vv) (.cons (zY V V Vv) (.nil))) <| zU V V (.cons (zJ0 V V V Vv) (.cons (zJ0 V V V Vv) (.nil))) <| zU V V (.cons (zJ0 V V V Vv) (.cons (zJ0 V V V Vv) (.cons (zJ0 V V V Vv) (.nil)))) <| zB1 V V V V (zN0 V zm27 V V Vv) <| zB1 V V V V (zC0 V V V V sz27 V V (zA V) V Vv) <| dO V V V (zF1 V V Vv) <| zP0 <| zB <| zB <| qR V <| qM V V V <| qO V <| zR3 V zG0 V V (.inr Vv) <| qN <| zT V (V) <| zB <| qR V <| qO V <| zA1 V zU1 zm27 .nil (by kernel_rfl) ?_
    refine qM V V V <| qO V <| zC0 V V V V sz27 V V (zA V) V <| qA V V V <| qN <| zI ?_
    exact zN1 (.inr V) Tryz.results233 V V ta27 V (.agg (.cons (.refl _) (.cons (.refl _) (.cons (.nil 1) (.cons (.nil 1) (.cons (.nil 5) .nil)))))) (zV1 _ (noV)) V (.refl _) (.iface _ _ (.int _ _)) ⟨by rw [show causesF f (.mk n1 m1 s1 c1 w1) (.mk n2 m2 s2 c2 w2) = none from by rw [causesF, hl, goE_bad (List.mem_filter.2 ⟨zW hs, by simpa [seenE] using h34⟩) hf]; rfl]; rfl, rfl⟩
   ·
    refine zX0 [9, 10] [_, S ++ [.cells (encS (.mk k (.mk k1 i1 :: rest))).cells, .cells (encV (.mk n1 m1 s1 c1 w1)).cells, .cells (encV (.mk n2 m2 s2 c2 w2)).cells, .cells [.int .u64 0, .int .u64 0, .lst0, .lst0, .lst0], .cells [.lst none 3 ((restE byTicksF (c1.zip w1) (c2.zip w2) (mergedC (.mk n1 m1 s1 c1 w1) (.mk n2 m2 s2 c2 w2)).length).1.map (encR encC))], .cells [.lst none 3 ((restE byTicksF (c1.zip w1) (c2.zip w2) (mergedC (.mk n1 m1 s1 c1 w1) (.mk n2 m2 s2 c2 w2)).length).2.map (encR encC))], .cells [.fn (.func 276) [] []], .cells [.int .u64 0, .int .u64 0, .lst0, .lst (some (S.length + 8)) 1 ((acc.map fun e => encC e.1)), .lst (some (S.length + 9)) 5 ((acc.map fun e => encV e.2))], .row 202 1 acc.length, .row 27 5 acc.length, .cells (encE encC e).cells, .cells [.int .u64 0, .int .u64 0, .lst0, .lst0, .lst0]], S ++ [.cells (encS (.mk k (.mk k1 i1 :: rest))).cells, .cells (encV (.mk n1 m1 s1 c1 w1)).cells, .cells (encV (.mk n2 m2 s2 c2 w2)).cells, .cells [.int .u64 0, .int .u64 0, .lst0, .lst0, .lst0], .cells [.lst none 3 ((restE byTicksF (c1.zip w1) (c2.zip w2) (mergedC (.mk n1 m1 s1 c1 w1) (.mk n2 m2 s2 c2 w2)).length).1.map (encR encC))], .cells [.lst none 3 ((restE byTicksF (c1.zip w1) (c2.zip w2) (mergedC (.mk n1 m1 s1 c1 w1) (.mk n2 m2 s2 c2 w2)).length).2.map (encR encC))], .cells [.fn (.func 276) [] []], .cells [.int .u64 0, .int .u64 0, .lst0, .lst (some (S.length + 8)) 1 ((acc.map fun e => encC e.1)), .lst (some (S.length + 9)) 5 ((acc.map fun e => encV e.2))], .row 202 1 acc.length, .row 27 5 acc.length, .cells (encE encC e).cells, .cells (encV (.mk n3 m3 s3 c3 w3)).cells]] mo (by decide) V V V V ?_
    refine zU V V (.cons (zE V V zS3 Vv) (.cons (zE V V zS3 Vv) (.nil))) <| zU V V (.cons (zO0 V V V ta51 V Vv) (.cons (zO0 V V V ta51 V Vv) (.nil))) <| zU V V (.cons (zK V zQ0 sz53 (by decide) V V V (show _ = some (encS (.mk k1 i1)) from V) Vv) (.cons (zK V zQ0 sz53 (by decide) V V V (show _ = some (encS (.mk k1 i1)) from V) Vv) (.nil))) ?_
    refine zU V V (.cons (zO V V ta53 V Vv) (.cons (zO V V ta53 V Vv) (.nil))) <| zU V V (.cons (zO0 V V V ta332 V Vv) (.cons (zO0 V V V ta332 V Vv) (.nil))) <| zU V V (.cons (zD1 V V V co279 (hof _)) (.cons (zD1 V V V co279 (hof _)) (.nil))) <| zU V V (.cons (zY V V Vv) (.cons (zY V V Vv) (.nil))) <| zU V V (.cons (zJ0 V V V Vv) (.cons (zJ0 V V V Vv) (.nil))) <| zU V V (.cons (zJ0 V V V Vv) (.cons (zJ0 V V V Vv) (.cons (zJ0 V V V Vv) (.nil)))) <| zB1 V V V V (zN0 V zm27 V V Vv) <| zB1 V V V V (zC0 V V V V sz27 V V (zA V) V Vv) <| dO V V V (zF1 V V Vv) <| zP0 <| zB <| zB <| qR V <| qM V V V <| qO V <| zF4 V zG0 V V (.inr Vv) <| qN <| zL V (V) <| zQ ?_
    refine zX0 [5, 10, 12, 14] [_, S ++ [.cells (encS (.mk k (.mk k1 i1 :: rest))).cells, .cells (encV (.mk n1 m1 s1 c1 w1)).cells, .cells (encV (.mk n2 m2 s2 c2 w2)).cells, .cells [.int .u64 0, .int .u64 0, .lst0, .lst0, .lst0], .cells [.lst none 3 ((restE byTicksF (c1.zip w1) (c2.zip w2) (mergedC (.mk n1 m1 s1 c1 w1) (.mk n2 m2 s2 c2 w2)).length).1.map (encR encC))], .cells [.lst none 3 ((restE byTicksF (c1.zip w1) (c2.zip w2) (mergedC (.mk n1 m1 s1 c1 w1) (.mk n2 m2 s2 c2 w2)).length).2.map (encR encC))], .cells [.fn (.func 276) [] []], .cells [.int .u64 0, .int .u64 0, .lst0, .lst (some (S.length + 8)) 1 ((acc.map fun e => encC e.1)), .lst (some (S.length + 9)) 5 ((acc.map fun e => encV e.2))], .row 202 1 (acc.length + 1), .row 27 5 acc.length, .cells (encE encC e).cells, .cells (encV (.mk n3 m3 s3 c3 w3)).cells], S ++ [.cells (encS (.mk k (.mk k1 i1 :: rest))).cells, .cells (encV (.mk n1 m1 s1 c1 w1)).cells, .cells (encV (.mk n2 m2 s2 c2 w2)).cells, .cells [.int .u64 0, .int .u64 0, .lst0, .lst0, .lst0], .cells [.lst none 3 ((restE byTicksF (c1.zip w1) (c2.zip w2) (mergedC (.mk n1 m1 s1 c1 w1) (.mk n2 m2 s2 c2 w2)).length).1.map (encR encC))], .cells [.lst none 3 ((restE byTicksF (c1.zip w1) (c2.zip w2) (mergedC (.mk n1 m1 s1 c1 w1) (.mk n2 m2 s2 c2 w2)).length).2.map (encR encC))], .cells [.fn (.func 276) [] []], .cells [.int .u64 0, .int .u64 0, .lst0, .lst (some (S.length + 8)) 1 ((acc.map fun e => encC e.1)), .lst (some (S.length + 9)) 5 ((acc.map fun e => encV e.2))], .row 202 1 (acc.length + 1), .row 27 5 (acc.length + 1), .cells (encE encC e).cells, .cells (encV (.mk n3 m3 s3 c3 w3)).cells], S ++ [.cells (encS (.mk k (.mk k1 i1 :: rest))).cells, .cells (encV (.mk n1 m1 s1 c1 w1)).cells, .cells (encV (.mk n2 m2 s2 c2 w2)).cells, .cells [.int .u64 0, .int .u64 0, .lst0, .lst0, .lst0], .cells [.lst none 3 ((restE byTicksF (c1.zip w1) (c2.zip w2) (mergedC (.mk n1 m1 s1 c1 w1) (.mk n2 m2 s2 c2 w2)).length).1.map (encR encC))], .cells [.lst none 3 ((restE byTicksF (c1.zip w1) (c2.zip w2) (mergedC (.mk n1 m1 s1 c1 w1) (.mk n2 m2 s2 c2 w2)).length).2.map (encR encC))], .cells [.fn (.func 276) [] []], .cells [.int .u64 0, .int .u64 0, .lst0, .lst (some (S.length + 8)) 1 (((acc.map fun e => encC e.1) ++ [encC e.1])), .lst (some (S.length + 9)) 5 ((acc.map fun e => encV e.2))], .row 202 1 (acc.length + 1), .row 27 5 (acc.length + 1), .cells (encE encC e).cells, .cells (encV (.mk n3 m3 s3 c3 w3)).cells], S ++ [.cells (encS (.mk k (.mk k1 i1 :: rest))).cells, .cells (encV (.mk n1 m1 s1 c1 w1)).cells, .cells (encV (.mk n2 m2 s2 c2 w2)).cells, .cells [.int .u64 0, .int .u64 0, .lst0, .lst0, .lst0], .cells [.lst none 3 ((restE byTicksF (c1.zip w1) (c2.zip w2) (mergedC (.mk n1 m1 s1 c1 w1) (.mk n2 m2 s2 c2 w2)).length).1.map (encR encC))], .cells [.lst none 3 ((restE byTicksF (c1.zip w1) (c2.zip w2) (mergedC (.mk n1 m1 s1 c1 w1) (.mk n2 m2 s2 c2 w2)).length).2.map (encR encC))], .cells [.fn (.func 276) [] []], .cells [.int .u64 0, .int .u64 0, .lst0, .lst (some (S.length + 8)) 1 (((acc.map fun e => encC e.1) ++ [encC e.1])), .lst (some (S.length + 9)) 5 (((acc.map fun e => encV e.2) ++ [encV (.mk n3 m3 s3 c3 w3)]))], .row 202 1 (acc.length + 1), .row 27 5 (acc.length + 1), .cells (encE encC e).cells, .cells (encV (.mk n3 m3 s3 c3 w3)).cells]] mo (by decide) V V V V ?_
    refine zU V V (.cons (zE V V zT2 Vv) (.cons (zE V V zT2 Vv) (.cons (zE V V zT2 Vv) (.nil)))) <| dO V V V (zO0 V V V ta24 V Vv) <| zU V V (.cons (zE V V zT6 Vv) (.cons (zE V V zT6 Vv) (.cons (zE V V zT6 Vv) (.nil)))) <| zU V V (.cons (zO0 V V V ta202 V Vv) (.cons (zO0 V V V ta202 V Vv) (.cons (zO0 V V V ta202 V Vv) (.nil)))) <| dO V V V (zJ1 V zE0 el202 V V (by decide) (by decide) V V Vv) ?_
    refine zB1 V V V V (zN3 V zE0 el202 V V V (by simp) (by simp; omega) (by simp; omega) V Vv) ?_
    refine zU V V (.cons (zE V V zI2 Vv) (.cons (zE V V zI2 Vv) (.cons (zE V V zI2 Vv) (.nil)))) <| zU V V (.cons (zO0 V V V ta25 V Vv) (.cons (zO0 V V V ta25 V Vv) (.nil))) <| zU V V (.cons (zO0 V V V ta27 V Vv) (.cons (zO0 V V V ta27 V Vv) (.cons (zO0 V V V ta27 V Vv) (.cons (zO0 V V V ta27 V Vv) (.nil))))) <| zU V V (.cons (zJ1 V zI0 el27 V V (by decide) (by decide) V V Vv) (.cons (zJ1 V zI0 el27 V V (by decide) (by decide) V V Vv) (.nil))) ?_
    refine zB1 V V V V (zN3 V zI0 el27 V V V (by simp) (by simp; omega) (by simp; omega) V Vv) ?_
    refine zU V V (.cons (zE V V zT2 Vv) (.cons (zE V V zT2 Vv) (.nil))) <| zB1 V V V V (zC0 V V V V sz24 V V (zA V) V Vv) <| dO V V V (zE V V zI2 Vv) <| zB1 V V V V (zC0 V V V V sz25 V V (zA V) V Vv) <| zP0 <| qR V <| qO V <| zT0 V V V V <| qM V V V <| qN ?_
    refine ⟨⟨i + 1, acc ++ [(e.1, .mk n3 m3 s3 c3 w3)]⟩, _, by dsimp only; omega, ⟨by dsimp only; omega, by dsimp only; rw [filt_snoc hs, if_pos (by simpa [seenE] using h34)]; exact goE_snoc he hf⟩, by simp only [List.map_append, zG]; rfl, .same (.same (.same (.same (.same (.same (.same (.new (cl_outC (by simp) (by simp)) (.new trivial (.new trivial .nil))))))))), (.old V V (.old V V (.old V V (.old V V (.old V V (.old V V (.nil))))))), (.new' V (zQ1 hlt hlen) (.int _ _) (.nil))⟩
 ·
  have hge : i = l.length := by simp at h29; omega
  refine zM1 <| zB <| qR V <| qL V V V V ta27 V <| qO V <| zC0 V V V V sz27 V V (zA V) V <| qA V V V <| qN <| zI ?_
  exact zN1 (.inr V) Tryz.results233 V V ta27 V (.agg (.cons (.refl _) (.cons (.refl _) (.cons (.nil 1) (.cons (.trans (.view _ _ _) (.of_eq (by rw [List.map_map]; rfl))) (.cons (.trans (.view _ _ _) (.of_eq (by rw [encVs_eq, List.map_map]; rfl))) .nil)))))) (zV1 _ (.mk 0 0 [] (acc.map (·.1)) (acc.map (·.2)))) V (.refl _) (.iface0) ⟨by rw [show causesF f (.mk n1 m1 s1 c1 w1) (.mk n2 m2 s2 c2 w2) = some _ from by rw [causesF, hl]; rw [hge, List.take_length] at he; rw [he]; rfl]; rfl, rfl⟩
section
theorem fn_own {f : FuncId} {S : MS} (A : MS) : MV.fn (.func f) [] [.ref (S ++ A).length 0, .ref ((S ++ A).length + 1) 0, .ref ((S ++ A).length + 2) 0] = MV.fn (.func f) [] [.ref (S.length + A.length) 0, .ref (S.length + (A.length + 1)) 0, .ref (S.length + (A.length + 2)) 0] := by
 rw [zG]; rfl
theorem get_end {A A' R : MS} {c : MObj} (h : A'.length = A.length) : (A' ++ (R ++ [c]))[(A ++ R).length]? = some c := by
 rw [zG, ← h, getElem?_own]
 exact zU4 (B := [])
theorem set_end {A R : MS} {c d : MObj} : (A ++ (R ++ [c])).set (A ++ R).length d = A ++ (R ++ [d]) := by
 rw [zG, zP5]
 congr 1
 exact zU5 (B := [])
theorem get_rtz {A A' L' : MS} {x y c : MObj} (h : A'.length = A.length) (Z : MS) : (A' ++ (((y :: L') ++ [c]) ++ Z))[(A ++ x :: L').length]? = some c := by
 rw [zG, ← h, getElem?_own]
 exact zS (zU4 (B := []))
theorem get_rt0 {A A' L' : MS} {x y c : MObj} (h : A'.length = A.length) : (A' ++ ((y :: L') ++ [c]))[(A ++ x :: L').length]? = some c := by
 have := get_rtz (x := x) (y := y) (c := c) (L' := L') h []
 rwa [List.append_nil] at this
section
variable {κ : Type}
def accE (f : Val → Val → Option Val) (l : List (Ent κ)) (j : Nat) : List (κ × Val) := (goE f (l.take j)).getD []
def okE (f : Val → Val → Option Val) (l : List (Ent κ)) (j : Nat) : Bool := ((l[j]?).bind (ofE f)).isSome
theorem acc_step {f : Val → Val → Option Val} {l : List (Ent κ)} {j : Nat} {e : Ent κ} {v : Val} (h : goE f (l.take j) = some (accE f l j)) (he : l[j]? = some e) (hv : ofE f e = some v) : goE f (l.take (j + 1)) = some (accE f l j ++ [(e.1, v)]) := by
 rw [List.take_add_one, he, Option.toList_some]
 exact goE_snoc h hv
theorem acc_next {f : Val → Val → Option Val} {l : List (Ent κ)} {j : Nat} {e : Ent κ} {v : Val} (h : goE f (l.take j) = some (accE f l j)) (he : l[j]? = some e) (hv : ofE f e = some v) : accE f l (j + 1) = accE f l j ++ [(e.1, v)] := by
 rw [accE, acc_step h he hv]; rfl
theorem acc_all {f : Val → Val → Option Val} {l : List (Ent κ)} : ∀ {j : Nat}, j ≤ l.length → (∀ i, i < j → okE f l i = true) → goE f (l.take j) = some (accE f l j)
 | 0, _, _ => by simp [accE, goE]
 | j + 1, hj, h => by
  have ih := acc_all (j := j) (by omega) fun i hi => h i (by omega)
  have hk := h j (by omega)
  obtain ⟨e, he⟩ : ∃ e, l[j]? = some e := ⟨_, zC (by omega)⟩
  rw [okE, he] at hk
  obtain ⟨v, hv⟩ := Option.isSome_iff_exists.1 hk
  rw [acc_step ih he hv, acc_next ih he hv]
end
theorem clo_V (n : Nat) (v : Val) : (MObj.cells (encV v).cells).cl n := by
 have h := zV1 n v
 cases v with
 | mk a b c d e => cases h with
  | agg _ h => exact h
theorem clo_S (n : Nat) (s : Sch) : (MObj.cells (encS s).cells).cl n := by
 have h := cl_encS n s
 cases s with
 | mk a b => cases h with
  | agg _ h => exact h
theorem clo_1 {n : Nat} {x : MV} (h : Cl n x) : (MObj.cells [x]).cl n := fun y hy => by
 rw [List.mem_singleton] at hy; subst hy; exact h
theorem clo_Z (n : Nat) : (MObj.cells [.int .u64 0, .int .u64 0, .lst0, .lst0, .lst0]).cl n := fun y hy => by
 simp only [List.mem_cons, List.not_mem_nil, or_false] at hy
 rcases hy with rfl | rfl | rfl | rfl | rfl
 ·exact .int _ _
 ·exact .int _ _
 ·exact .lst0
 ·exact .lst0
 ·exact .lst0
theorem clo_outX {acc : List (Bs × Val)} {t u n : Nat} (ht : t < n) (hu : u < n) : (MObj.cells [.int .u64 0, .int .u64 0, .lst (some t) 1 (acc.map fun e => encX e.1), .lst0, .lst (some u) 5 (acc.map fun e => encV e.2)]).cl n := by
 intro x hx
 simp only [List.mem_cons, List.not_mem_nil, or_false] at hx
 rcases hx with rfl | rfl | rfl | rfl | rfl
 ·exact .int _ _
 ·exact .int _ _
 ·exact zC6 ht (fun e : Bs × Val => cl_encX n e.1) (fun e => .inr rfl)
 ·exact .lst0
 ·exact zC6 hu (fun e : Bs × Val => zV1 n e.2) (fun e => by cases e.2; exact .inl rfl)
theorem one_encEX (e : Ent Bs) : (encE encX e).cells.all MV.one = true := by obtain ⟨k, v, o⟩ := e; cases o <;> rfl
theorem clo_bx (n : Nat) (l : List (REnt Bs)) : (MObj.cells [.lst none 3 (l.map (encR encX))]).cl n := clo_1 (zA7 (cl_encR (fun n k => cl_encX n k) _) (fun _ => .inl rfl))
theorem okE_some {κ : Type} {f : Val → Val → Option Val} {l : List (Ent κ)} {j : Nat} {e : Ent κ} {v : Val} (h : l[j]? = some e) (hf : ofE f e = some v) : okE f l j = true := by rw [okE, h]; simp [hf]
theorem okE_none {κ : Type} {f : Val → Val → Option Val} {l : List (Ent κ)} {j : Nat} {e : Ent κ} (h : l[j]? = some e) (hf : ofE f e = none) : okE f l j = false := by rw [okE, h]; simp [hf]
theorem bad_none {κ : Type} {f : Val → Val → Option Val} {l : List (Ent κ)} {j : Nat} {e : Ent κ} (h : l[j]? = some e) (hf : okE f l j = false) : goE f l = none := by
 refine goE_bad (zW h) ?_
 rw [okE, h] at hf
 simpa using hf
theorem maps_spec (k k1 : Int) (i1 rest : List Sch) (f : Val → Val → Option Val) (n1 m1 : Int) (s1 : List Bs) (c1 : List (List Tk)) (w1 : List Val) (n2 m2 : Int) (s2 : List Bs) (c2 : List (List Tk)) (w2 : List Val) (hl1 : s1.length = w1.length) (hl2 : s2.length = w2.length) (h1 : s1.length ≤ 40) (h2 : s2.length ≤ 40) (hb : ∀ x ∈ w1, ∀ y ∈ w2, ∀ S : MS, MCalls Tryz.prog 188 [encS (.mk k1 i1), encV x, encV y] S fun v σ' => v = encO (f x y) ∧ σ' = S) (S : MS) : MCalls Tryz.prog 229 [encS (.mk k (.mk k1 i1 :: rest)), encV (.mk n1 m1 s1 c1 w1), encV (.mk n2 m2 s2 c2 w2)] S fun v σ' => v = encO (mapsF f (.mk n1 m1 s1 c1 w1) (.mk n2 m2 s2 c2 w2)) ∧ σ' = S := by
 refine zM Tryz.func229 V Tryz.ntmps229 (zA V) ?_
 generalize hl : mergedX (.mk n1 m1 s1 c1 w1) (.mk n2 m2 s2 c2 w2) = l
 have hll : l.length ≤ 80 := by rw [← hl]; have := mergeE_len cmpX (s1.zip w1) (s2.zip w2); simp only [mergedX, entX, Val.sv, Val.vv, List.length_zip] at *; omega
 have hmem : ∀ e ∈ l, ∀ y, e.2.2 = some y → e.2.1 ∈ w1 ∧ y ∈ w2 := fun e h => by
  obtain ⟨p, q⟩ := mergeE_mem _ _ _ e (by rw [← hl] at h; exact h)
  intro y hy
  obtain ⟨q1, k, q2⟩ := q y hy
  exact ⟨zip_mem2 q1, zip_mem2 q2⟩
 refine zB <| qR V <| qB V V V V V <| qB V V V V V <| qB V V V V V <| qO V <| zN0 V zm27 V V <| qO V <| zN0 V zm43 V V <| qN <| zB <| qR V <| qO V <| zN0 V zm27 V V <| qN <| zB <| zB ?_
 refine zX0 [10] [_, S ++ [.cells (encS (.mk k (.mk k1 i1 :: rest))).cells, .cells (encV (.mk n1 m1 s1 c1 w1)).cells, .cells (encV (.mk n2 m2 s2 c2 w2)).cells, .cells [.int .u64 0, .int .u64 0, .lst0, .lst0, .lst0], .cells [.iface0], .cells [.int .u64 0, .int .u64 0, .lst0, .lst0, .lst0], .cells [.lst none 3 ((s1.zip w1).map (encR encX))], .cells [.lst none 3 ((s2.zip w2).map (encR encX))], .cells [.fn (.func 268) [] []]]] mo (by decide) V V V V ?_
 refine zU V V (.cons (zE V V zC3 Vv) (.cons (zE V V zC3 Vv) (.nil))) <| zU V V (.cons (zO0 V V V ta23 V Vv) (.cons (zO0 V V V ta23 V Vv) (.nil))) <| zU V V (.cons (zE V V zI2 Vv) (.cons (zE V V zI2 Vv) (.nil))) <| zU V V (.cons (zO0 V V V ta25 V Vv) (.cons (zO0 V V V ta25 V Vv) (.nil))) <| zU V V (.cons (zD1 V V V co267 (xrow_spec s1 w1 hl1 (by omega) _)) .nil) ?_
 refine zU V V (.cons (zE V V zC3 Vv) (.cons (zE V V zC3 Vv) (.nil))) <| zU V V (.cons (zO0 V V V ta23 V Vv) (.cons (zO0 V V V ta23 V Vv) (.nil))) <| zU V V (.cons (zE V V zI2 Vv) (.cons (zE V V zI2 Vv) (.nil))) <| zU V V (.cons (zO0 V V V ta25 V Vv) (.cons (zO0 V V V ta25 V Vv) (.nil))) <| zU V V (.cons (zD1 V V V co267 (xrow_spec s2 w2 hl2 (by omega) _)) .nil) ?_
 refine zB1 V V V V (zD1 V V V co266 ((xmerged_spec (s1.zip w1) (s2.zip w2) _ _).mono fun _ _ h => ⟨h.1.trans (fn_own [_, _, _, _, _, _]), h.2.trans (zN ..)⟩)) ?_
 refine zP0 <| zX <| mwp_cellrowAt 5 2 9 1 V V (Nat.le_refl _) V V <| mwp_cellrowAt 5 4 27 5 V V (Nat.le_refl _) V V ?_
 refine mwp_rangeC (L0 := _) .ret (.inl V) (okE f l) (fun j => ([.cells (encS (.mk k (.mk k1 i1 :: rest))).cells, .cells (encV (.mk n1 m1 s1 c1 w1)).cells, .cells (encV (.mk n2 m2 s2 c2 w2)).cells, .cells [.int .u64 0, .int .u64 0, .lst0, .lst0, .lst0], .cells [.iface0], .cells [.int .u64 0, .int .u64 0, .lst (some (S.length + 9)) 1 (((accE f l j).map fun e => encX e.1)), .lst0, .lst (some (S.length + 10)) 5 (((accE f l j).map fun e => encV e.2))], .cells [.lst none 3 ((restE cmpX (s1.zip w1) (s2.zip w2) j).1.map (encR encX))], .cells [.lst none 3 ((restE cmpX (s1.zip w1) (s2.zip w2) j).2.map (encR encX))], .cells [.fn (.func 268) [] []], .row 9 1 (accE f l j).length, .row 27 5 (accE f l j).length] : MS)) (fun j => ([.cells (encS (.mk k (.mk k1 i1 :: rest))).cells, .cells (encV (.mk n1 m1 s1 c1 w1)).cells, .cells (encV (.mk n2 m2 s2 c2 w2)).cells, .cells [.int .u64 0, .int .u64 0, .lst0, .lst0, .lst0], .cells [.iface0], .cells [.int .u64 0, .int .u64 0, .lst (some (S.length + 9)) 1 (((accE f l j).map fun e => encX e.1)), .lst0, .lst (some (S.length + 10)) 5 (((accE f l j).map fun e => encV e.2))], .cells [.lst none 3 ((restE cmpX (s1.zip w1) (s2.zip w2) (j + 1)).1.map (encR encX))], .cells [.lst none 3 ((restE cmpX (s1.zip w1) (s2.zip w2) (j + 1)).2.map (encR encX))], .cells [.fn (.func 268) [] []], .row 9 1 (accE f l j).length, .row 27 5 (accE f l j).length] : MS)) (fun j => ([.cells (encS (.mk k (.mk k1 i1 :: rest))).cells, .cells (encV (.mk n1 m1 s1 c1 w1)).cells, .cells (encV (.mk n2 m2 s2 c2 w2)).cells, .cells [.int .u64 0, .int .u64 0, .lst0, .lst0, .lst0], .cells [encErr 13], .cells [.int .u64 0, .int .u64 0, .lst (some (S.length + 9)) 1 (((accE f l j).map fun e => encX e.1)), .lst0, .lst (some (S.length + 10)) 5 (((accE f l j).map fun e => encV e.2))], .cells [.lst none 3 ((restE cmpX (s1.zip w1) (s2.zip w2) (j + 1)).1.map (encR encX))], .cells [.lst none 3 ((restE cmpX (s1.zip w1) (s2.zip w2) (j + 1)).2.map (encR encX))], .cells [.fn (.func 268) [] []], .row 9 1 (accE f l j).length, .row 27 5 (accE f l j).length] : MS)) (fun j => V) (fun j => V) (fun j => V) V
  (fun j o ho n hn => by
   simp only [List.mem_cons, List.not_mem_nil, or_false] at ho
   rcases ho with rfl | rfl | rfl | rfl | rfl | rfl | rfl | rfl | rfl | rfl | rfl
   ·exact clo_S _ _
   ·exact clo_V _ _
   ·exact clo_V _ _
   ·exact clo_Z _
   ·exact clo_1 .iface0
   ·exact clo_outX (by simp only [zG, zF0, List.length_nil] at hn; omega) (by simp only [zG, zF0, List.length_nil] at hn; omega)
   ·exact clo_bx _ _
   ·exact clo_bx _ _
   ·exact clo_1 (.fn _ _ _ (fun _ h => by cases h) (fun _ h => by cases h))
   ·exact trivial
   ·exact trivial)
  (fun j o ho n hn => by
   simp only [List.mem_cons, List.not_mem_nil, or_false] at ho
   rcases ho with rfl | rfl | rfl | rfl | rfl | rfl | rfl | rfl | rfl | rfl | rfl
   ·exact clo_S _ _
   ·exact clo_V _ _
   ·exact clo_V _ _
   ·exact clo_Z _
   ·exact clo_1 .iface0
   ·exact clo_outX (by simp only [zG, zF0, List.length_nil] at hn; omega) (by simp only [zG, zF0, List.length_nil] at hn; omega)
   ·exact clo_bx _ _
   ·exact clo_bx _ _
   ·exact clo_1 (.fn _ _ _ (fun _ h => by cases h) (fun _ h => by cases h))
   ·exact trivial
   ·exact trivial)
  (fun j o ho n hn => by
   simp only [List.mem_cons, List.not_mem_nil, or_false] at ho
   rcases ho with rfl | rfl | rfl | rfl | rfl | rfl | rfl | rfl | rfl | rfl | rfl
   ·exact clo_S _ _
   ·exact clo_V _ _
   ·exact clo_V _ _
   ·exact clo_Z _
   ·exact clo_1 (.iface _ _ (.int _ _))
   ·exact clo_outX (by simp only [zG, zF0, List.length_nil] at hn; omega) (by simp only [zG, zF0, List.length_nil] at hn; omega)
   ·exact clo_bx _ _
   ·exact clo_bx _ _
   ·exact clo_1 (.fn _ _ _ (fun _ h => by cases h) (fun _ h => by cases h))
   ·exact trivial
   ·exact trivial) rfl co296 rfl (by simp) (xmerged_iter cmpX _ co268 (fun a b S => strCmp_spec a b S) (s1.zip w1) (s2.zip w2) (S.length + 6) (S.length + 7) (S.length + 8) (S.length + 12) (by omega)) (fun j => by simp) (fun j hj => ⟨zF5 (k := 6) rfl, zF5 (k := 7) rfl, zF5 (k := 8) rfl, ?_⟩) (fun j s q => by simp) rfl (fun y hy => by obtain ⟨i, _, rfl⟩ := List.mem_map.1 hy; rfl) ?_ ?_ ?_
 ·rw [set_mid_ (k := 6) rfl, set_mid_ (k := 7) rfl]; rfl
 ·
  intro j y hy hbef L'
  rw [zH0] at hy
  obtain ⟨e, hs, rfl⟩ := Option.map_eq_some_iff.1 hy
  replace hs : l[j]? = some e := by rw [← hl]; exact hs
  have hjl : j < l.length := (zD.1 hs).1
  have hacc := acc_all (f := f) (by omega) hbef
  have hal : (accE f l j).length ≤ 1000 := by have h1 := goE_len hacc; rw [List.length_take] at h1; omega
  refine qR V <| qO V <| zA4 V zm325 <| qO V <| zD2 V V V sz325 V (one_encEX e) (zA V) <| qN ?_
  refine ⟨rfl, [_], rfl, ?_⟩
  rw [zN (S ++ _)]
  refine mwp_abs fun R hR => ?_
  have hE0 : ∀ (x : MObj) (A' : MS), A'.length = S.length + 11 → (A' ++ R)[((S ++ ([.cells (encS (.mk k (.mk k1 i1 :: rest))).cells, .cells (encV (.mk n1 m1 s1 c1 w1)).cells, .cells (encV (.mk n2 m2 s2 c2 w2)).cells, .cells [.int .u64 0, .int .u64 0, .lst0, .lst0, .lst0], .cells [.iface0], .cells [.int .u64 0, .int .u64 0, .lst (some (S.length + 9)) 1 (((accE f l j).map fun e => encX e.1)), .lst0, .lst (some (S.length + 10)) 5 (((accE f l j).map fun e => encV e.2))], .cells [.lst none 3 ((restE cmpX (s1.zip w1) (s2.zip w2) (j + 1)).1.map (encR encX))], .cells [.lst none 3 ((restE cmpX (s1.zip w1) (s2.zip w2) (j + 1)).2.map (encR encX))], .cells [.fn (.func 268) [] []], .row 9 1 (accE f l j).length, .row 27 5 (accE f l j).length] : MS)) ++ x :: L').length]? = some (.cells (encE encX e).cells) := fun x A' hA => by rw [hR]; exact get_rt0 (by simpa using hA)
  have hE : ∀ (x : MObj) (A' Z : MS), A'.length = S.length + 11 → (A' ++ (R ++ Z))[((S ++ ([.cells (encS (.mk k (.mk k1 i1 :: rest))).cells, .cells (encV (.mk n1 m1 s1 c1 w1)).cells, .cells (encV (.mk n2 m2 s2 c2 w2)).cells, .cells [.int .u64 0, .int .u64 0, .lst0, .lst0, .lst0], .cells [.iface0], .cells [.int .u64 0, .int .u64 0, .lst (some (S.length + 9)) 1 (((accE f l j).map fun e => encX e.1)), .lst0, .lst (some (S.length + 10)) 5 (((accE f l j).map fun e => encV e.2))], .cells [.lst none 3 ((restE cmpX (s1.zip w1) (s2.zip w2) (j + 1)).1.map (encR encX))], .cells [.lst none 3 ((restE cmpX (s1.zip w1) (s2.zip w2) (j + 1)).2.map (encR encX))], .cells [.fn (.func 268) [] []], .row 9 1 (accE f l j).length, .row 27 5 (accE f l j).length] : MS)) ++ x :: L').length]? = some (.cells (encE encX e).cells) := fun x A' Z hA => by rw [hR]; exact get_rtz (by simpa using hA) Z
  refine zX <| zB ?_
  have hof := fun S => xof_spec k1 i1 f e (fun y hy S => hb _ (hmem e (zW hs) y hy).1 y (hmem e (zW hs) y hy).2 S) S
  rcases hf : ofE f e with _ | ⟨⟨n3, m3, s3, c3, w3⟩⟩ <;> rw [hf] at hof
  ·
   refine zX0 [9, 10] [_, (S ++ [.cells (encS (.mk k (.mk k1 i1 :: rest))).cells, .cells (encV (.mk n1 m1 s1 c1 w1)).cells, .cells (encV (.mk n2 m2 s2 c2 w2)).cells, .cells [.int .u64 0, .int .u64 0, .lst0, .lst0, .lst0], .cells [.iface0], .cells [.int .u64 0, .int .u64 0, .lst (some (S.length + 9)) 1 (((accE f l j).map fun e => encX e.1)), .lst0, .lst (some (S.length + 10)) 5 (((accE f l j).map fun e => encV e.2))], .cells [.lst none 3 ((restE cmpX (s1.zip w1) (s2.zip w2) (j + 1)).1.map (encR encX))], .cells [.lst none 3 ((restE cmpX (s1.zip w1) (s2.zip w2) (j + 1)).2.map (encR encX))], .cells [.fn (.func 268) [] []], .row 9 1 (accE f l j).length, .row 27 5 (accE f l j).length]) ++ (R ++ [.cells [.int .u64 0, .int .u64 0, .lst0, .lst0, .lst0]]), (S ++ [.cells (encS (.mk k (.mk k1 i1 :: rest))).cells, .cells (encV (.mk n1 m1 s1 c1 w1)).cells, .cells (encV (.mk n2 m2 s2 c2 w2)).cells, .cells [.int .u64 0, .int .u64 0, .lst0, .lst0, .lst0], .cells [.iface0], .cells [.int .u64 0, .int .u64 0, .lst (some (S.length + 9)) 1 (((accE f l j).map fun e => encX e.1)), .lst0, .lst (some (S.length + 10)) 5 (((accE f l j).map fun e => encV e.2))], .cells [.lst none 3 ((restE cmpX (s1.zip w1) (s2.zip w2) (j + 1)).1.map (encR encX))], .cells [.lst none 3 ((restE cmpX (s1.zip w1) (s2.zip w2) (j + 1)).2.map (encR encX))], .cells [.fn (.func 268) [] []], .row 9 1 (accE f l j).length, .row 27 5 (accE f l j).length]) ++ (R ++ [.cells (encV noV).cells])] mo (by decide) V V V V ?_
   refine zU V V (.cons (zE V V zS3 Vv) (.cons (zE V V zS3 Vv) (.nil))) <| zU V V (.cons (zV3 V V V ta51 V Vv) (.cons (zV3 V V V ta51 V Vv) (.nil))) <| zU V V (.cons (zK V zQ0 sz53 (by decide) V V V (show _ = some (encS (.mk k1 i1)) from V) Vv) (.cons (zK V zQ0 sz53 (by decide) V V V (show _ = some (encS (.mk k1 i1)) from V) Vv) (.nil))) ?_
   refine zU V V (.cons (zO V V ta53 V Vv) (.cons (zO V V ta53 V Vv) (.nil))) <| zU V V (.cons (zP V V (hE0 _ _ (by simp)) ta325 V Vv) (.cons (zP V V (hE _ _ _ (by simp)) ta325 V Vv) (.nil))) ?_
   refine zU V V (.cons (zD1 V V V co269 (hof _)) (.cons (zD1 V V V co269 (hof _)) (.nil))) <| zU V V (.cons (zY V V Vv) (.cons (zY V V Vv) (.nil))) <| zU V V (.cons (zJ0 V V V Vv) (.cons (zJ0 V V V Vv) (.nil))) <| zU V V (.cons (zJ0 V V V Vv) (.cons (zJ0 V V V Vv) (.cons (zJ0 V V V Vv) (.nil)))) <| zB1 V V V V (zA4 V zm27 ⟨rfl, zN ..⟩) <| zB1 V V V V (zQ5 V V V (get_end V) sz27 V V (zA V) ⟨rfl, set_end⟩) <| dO V V V (zF1 V V Vv) <| zP0 <| zB <| zB <| qR V <| qM V V V <| qO V <| zR3 V zG0 V V (.inr Vv) <| qN <| zT V (V) <| zB <| qR V <| qO V <| zA1 V zU1 zm27 .nil (by kernel_rfl) ?_
   refine qM V V V <| qO V <| zJ3 V V V V sz27 V V (zA V) V <| qO V <| zJ3 V V V V sz43 V V (zA V) V <| qN <| zI ?_
   exact .inr ⟨okE_none hs hf, rfl, [_, _], by rw [hR]; simp only [zN, List.cons_append, List.nil_append]; rfl⟩
  ·
   refine zX0 [9, 10] [_, (S ++ [.cells (encS (.mk k (.mk k1 i1 :: rest))).cells, .cells (encV (.mk n1 m1 s1 c1 w1)).cells, .cells (encV (.mk n2 m2 s2 c2 w2)).cells, .cells [.int .u64 0, .int .u64 0, .lst0, .lst0, .lst0], .cells [.iface0], .cells [.int .u64 0, .int .u64 0, .lst (some (S.length + 9)) 1 (((accE f l j).map fun e => encX e.1)), .lst0, .lst (some (S.length + 10)) 5 (((accE f l j).map fun e => encV e.2))], .cells [.lst none 3 ((restE cmpX (s1.zip w1) (s2.zip w2) (j + 1)).1.map (encR encX))], .cells [.lst none 3 ((restE cmpX (s1.zip w1) (s2.zip w2) (j + 1)).2.map (encR encX))], .cells [.fn (.func 268) [] []], .row 9 1 (accE f l j).length, .row 27 5 (accE f l j).length]) ++ (R ++ [.cells [.int .u64 0, .int .u64 0, .lst0, .lst0, .lst0]]), (S ++ [.cells (encS (.mk k (.mk k1 i1 :: rest))).cells, .cells (encV (.mk n1 m1 s1 c1 w1)).cells, .cells (encV (.mk n2 m2 s2 c2 w2)).cells, .cells [.int .u64 0, .int .u64 0, .lst0, .lst0, .lst0], .cells [.iface0], .cells [.int .u64 0, .int .u64 0, .lst (some (S.length + 9)) 1 (((accE f l j).map fun e => encX e.1)), .lst0, .lst (some (S.length + 10)) 5 (((accE f l j).map fun e => encV e.2))], .cells [.lst none 3 ((restE cmpX (s1.zip w1) (s2.zip w2) (j + 1)).1.map (encR encX))], .cells [.lst none 3 ((restE cmpX (s1.zip w1) (s2.zip w2) (j + 1)).2.map (encR encX))], .cells [.fn (.func 268) [] []], .row 9 1 (accE f l j).length, .row 27 5 (accE f l j).length]) ++ (R ++ [.cells (encV (.mk n3 m3 s3 c3 w3)).cells])] mo (by decide) V V V V ?_
   refine zU V V (.cons (zE V V zS3 Vv) (.cons (zE V V zS3 Vv) (.nil))) <| zU V V (.cons (zV3 V V V ta51 V Vv) (.cons (zV3 V V V ta51 V Vv) (.nil))) <| zU V V (.cons (zK V zQ0 sz53 (by decide) V V V (show _ = some (encS (.mk k1 i1)) from V) Vv) (.cons (zK V zQ0 sz53 (by decide) V V V (show _ = some (encS (.mk k1 i1)) from V) Vv) (.nil))) ?_
   refine zU V V (.cons (zO V V ta53 V Vv) (.cons (zO V V ta53 V Vv) (.nil))) <| zU V V (.cons (zP V V (hE0 _ _ (by simp)) ta325 V Vv) (.cons (zP V V (hE _ _ _ (by simp)) ta325 V Vv) (.nil))) ?_
   refine zU V V (.cons (zD1 V V V co269 (hof _)) (.cons (zD1 V V V co269 (hof _)) (.nil))) <| zU V V (.cons (zY V V Vv) (.cons (zY V V Vv) (.nil))) <| zU V V (.cons (zJ0 V V V Vv) (.cons (zJ0 V V V Vv) (.nil))) <| zU V V (.cons (zJ0 V V V Vv) (.cons (zJ0 V V V Vv) (.cons (zJ0 V V V Vv) (.nil)))) <| zB1 V V V V (zA4 V zm27 ⟨rfl, zN ..⟩) <| zB1 V V V V (zQ5 V V V (get_end V) sz27 V V (zA V) ⟨rfl, set_end⟩) <| dO V V V (zF1 V V Vv) <| zP0 <| zB <| zB <| qR V <| qM V V V <| qO V <| zF4 V zG0 V V (.inr Vv) <| qN <| zL V (V) <| zQ ?_
   refine zX0 [5, 10, 12, 14] [_, (S ++ [.cells (encS (.mk k (.mk k1 i1 :: rest))).cells, .cells (encV (.mk n1 m1 s1 c1 w1)).cells, .cells (encV (.mk n2 m2 s2 c2 w2)).cells, .cells [.int .u64 0, .int .u64 0, .lst0, .lst0, .lst0], .cells [.iface0], .cells [.int .u64 0, .int .u64 0, .lst (some (S.length + 9)) 1 (((accE f l j).map fun e => encX e.1)), .lst0, .lst (some (S.length + 10)) 5 (((accE f l j).map fun e => encV e.2))], .cells [.lst none 3 ((restE cmpX (s1.zip w1) (s2.zip w2) (j + 1)).1.map (encR encX))], .cells [.lst none 3 ((restE cmpX (s1.zip w1) (s2.zip w2) (j + 1)).2.map (encR encX))], .cells [.fn (.func 268) [] []], .row 9 1 ((accE f l j).length + 1), .row 27 5 (accE f l j).length]) ++ (R ++ [.cells (encV (.mk n3 m3 s3 c3 w3)).cells]), (S ++ [.cells (encS (.mk k (.mk k1 i1 :: rest))).cells, .cells (encV (.mk n1 m1 s1 c1 w1)).cells, .cells (encV (.mk n2 m2 s2 c2 w2)).cells, .cells [.int .u64 0, .int .u64 0, .lst0, .lst0, .lst0], .cells [.iface0], .cells [.int .u64 0, .int .u64 0, .lst (some (S.length + 9)) 1 (((accE f l j).map fun e => encX e.1)), .lst0, .lst (some (S.length + 10)) 5 (((accE f l j).map fun e => encV e.2))], .cells [.lst none 3 ((restE cmpX (s1.zip w1) (s2.zip w2) (j + 1)).1.map (encR encX))], .cells [.lst none 3 ((restE cmpX (s1.zip w1) (s2.zip w2) (j + 1)).2.map (encR encX))], .cells [.fn (.func 268) [] []], .row 9 1 ((accE f l j).length + 1), .row 27 5 ((accE f l j).length + 1)]) ++ (R ++ [.cells (encV (.mk n3 m3 s3 c3 w3)).cells]), (S ++ [.cells (encS (.mk k (.mk k1 i1 :: rest))).cells, .cells (encV (.mk n1 m1 s1 c1 w1)).cells, .cells (encV (.mk n2 m2 s2 c2 w2)).cells, .cells [.int .u64 0, .int .u64 0, .lst0, .lst0, .lst0], .cells [.iface0], .cells [.int .u64 0, .int .u64 0, .lst (some (S.length + 9)) 1 ((((accE f l j).map fun e => encX e.1) ++ [encX e.1])), .lst0, .lst (some (S.length + 10)) 5 (((accE f l j).map fun e => encV e.2))], .cells [.lst none 3 ((restE cmpX (s1.zip w1) (s2.zip w2) (j + 1)).1.map (encR encX))], .cells [.lst none 3 ((restE cmpX (s1.zip w1) (s2.zip w2) (j + 1)).2.map (encR encX))], .cells [.fn (.func 268) [] []], .row 9 1 ((accE f l j).length + 1), .row 27 5 ((accE f l j).length + 1)]) ++ (R ++ [.cells (encV (.mk n3 m3 s3 c3 w3)).cells]), (S ++ [.cells (encS (.mk k (.mk k1 i1 :: rest))).cells, .cells (encV (.mk n1 m1 s1 c1 w1)).cells, .cells (encV (.mk n2 m2 s2 c2 w2)).cells, .cells [.int .u64 0, .int .u64 0, .lst0, .lst0, .lst0], .cells [.iface0], .cells [.int .u64 0, .int .u64 0, .lst (some (S.length + 9)) 1 ((((accE f l j).map fun e => encX e.1) ++ [encX e.1])), .lst0, .lst (some (S.length + 10)) 5 ((((accE f l j).map fun e => encV e.2) ++ [encV (.mk n3 m3 s3 c3 w3)]))], .cells [.lst none 3 ((restE cmpX (s1.zip w1) (s2.zip w2) (j + 1)).1.map (encR encX))], .cells [.lst none 3 ((restE cmpX (s1.zip w1) (s2.zip w2) (j + 1)).2.map (encR encX))], .cells [.fn (.func 268) [] []], .row 9 1 ((accE f l j).length + 1), .row 27 5 ((accE f l j).length + 1)]) ++ (R ++ [.cells (encV (.mk n3 m3 s3 c3 w3)).cells])] mo (by decide) V V V V ?_
   refine zU V V (.cons (zE V V zC3 Vv) (.cons (zE V V zC3 Vv) (.cons (zE V V zC3 Vv) (.nil)))) <| dO V V V (zV3 V V V ta23 V Vv) <| zU V V (.cons (zE V V fo325_0 Vv) (.cons (zE V V fo325_0 Vv) (.cons (zE V V fo325_0 Vv) (.nil)))) <| zU V V (.cons (zP V V (hE _ _ _ (by simp)) ta9 V Vv) (.cons (zP V V (hE _ _ _ (by simp)) ta9 V Vv) (.cons (zP V V (hE _ _ _ (by simp)) ta9 V Vv) (.nil)))) ?_
   refine dO V V V (zJ1 V zB0 el9 V V (by decide) (by decide) V V Vv) ?_
   refine zB1 V V V V (op_append_mid V zB0 el9 V V V (by simp) (by simp; omega) (by simp; omega) V Vv) ?_
   refine zU V V (.cons (zE V V zI2 Vv) (.cons (zE V V zI2 Vv) (.cons (zE V V zI2 Vv) (.nil)))) <| zU V V (.cons (zV3 V V V ta25 V Vv) (.cons (zV3 V V V ta25 V Vv) (.nil))) <| zU V V (.cons (zP V V (get_end (by simp)) ta27 V Vv) (.cons (zP V V (get_end (by simp)) ta27 V Vv) (.cons (zP V V (get_end (by simp)) ta27 V Vv) (.cons (zP V V (get_end (by simp)) ta27 V Vv) (.nil))))) ?_
   refine zU V V (.cons (zJ1 V zI0 el27 V V (by decide) (by decide) V V Vv) (.cons (zJ1 V zI0 el27 V V (by decide) (by decide) V V Vv) (.nil))) ?_
   refine zB1 V V V V (op_append_mid V zI0 el27 V V V (by simp) (by simp; omega) (by simp; omega) V Vv) ?_
   refine zU V V (.cons (zE V V zC3 Vv) (.cons (zE V V zC3 Vv) (.nil))) <| zB1 V V V V (zJ3 V V V V sz23 V V (zA V) V Vv) <| dO V V V (zE V V zI2 Vv) <| zB1 V V V V (zJ3 V V V V sz25 V V (zA V) V Vv) <| zP0 ?_
   exact .inl ⟨okE_some hs hf, rfl, [_, _], by rw [hR, acc_next hacc hs hf, List.map_append, List.map_append, len_snoc (l := accE f l j)]; simp only [zN, List.cons_append, List.nil_append]; rfl⟩
 ·
  intro hall
  rw [zF, show (mergeE cmpX (s1.zip w1) (s2.zip w2)).length = l.length from congrArg List.length hl]
  replace hall := acc_all (f := f) (j := l.length) (Nat.le_refl _) (fun i hi => hall i (by rw [zF]; rw [← hl] at hi; exact hi))
  rw [List.take_length] at hall
  rw [zN S]
  refine zB <| qR V <| qL V V V V ta27 V <| qO V <| zC0 V V V V sz27 V V (zA V) V <| qO V <| zC0 V V V V sz43 V V (zA V) V <| qN <| zI ?_
  exact ret_cell_cell (.inr V) Tryz.results229 V V ta27 V (.agg (.cons (.refl _) (.cons (.refl _) (.cons (.trans (.view _ _ _) (.of_eq (by rw [List.map_map]; rfl))) (.cons (.nil 1) (.cons (.trans (.view _ _ _) (.of_eq (by rw [encVs_eq, List.map_map]; rfl))) .nil)))))) (zV1 _ (.mk 0 0 ((accE f l l.length).map (·.1)) [] ((accE f l l.length).map (·.2)))) V V ta43 V (.refl _) (.iface0) ⟨by rw [show mapsF f (.mk n1 m1 s1 c1 w1) (.mk n2 m2 s2 c2 w2) = some _ from by rw [mapsF, hl, hall]; rfl]; rfl, rfl⟩
 ·
  intro j y hy hp
  rw [zH0] at hy
  obtain ⟨e, hs, rfl⟩ := Option.map_eq_some_iff.1 hy
  replace hs : l[j]? = some e := by rw [← hl]; exact hs
  rw [zN S]
  exact ret_cell_cell (.inr V) Tryz.results229 V V ta27 V (.agg (.cons (.refl _) (.cons (.refl _) (.cons (.nil 1) (.cons (.nil 1) (.cons (.nil 5) .nil)))))) (zV1 _ (noV)) V V ta43 V (.refl _) (.iface _ _ (.int _ _)) ⟨by rw [show mapsF f (.mk n1 m1 s1 c1 w1) (.mk n2 m2 s2 c2 w2) = none from by rw [mapsF, hl, bad_none hs hp]; rfl]; rfl, rfl⟩
end
theorem rSameC_spec (a b : List Tk) (S : MS) : MCalls Tryz.prog 151 [.lst none 2 (a.map encT), .lst none 2 (b.map encT)] S fun v σ' => v = .bool (decide (a = b)) ∧ σ' = S := by
 refine zM Tryz.func151 V Tryz.ntmps151 (zA V) ?_
 refine zL3 (t := 0) V fun hlen => ?_
 rw [zF] at hlen
 refine zB <| qR V <| qA V V V <| qN <| zB <| zB <| qR V <| qM V V V <| qE V V zA0 V <| qM V V V <| qE V V zA0 V <| qC V V V V V <| qN ?_
 refine zJ V (fun h10 => ?_) (fun h10 => ?_)
 ·
  refine zB <| qR V <| qA V V V <| qN <| zI ?_
  exact zR (.inr V) Tryz.results151 V (.of_eq (by congr 1; symm; rw [decide_eq_false_iff_not]; intro e; subst e; simp at h10)) (.bool _) Vv
 ·
  have hab : a.length = b.length := by simp at h10; omega
  refine zQ <| zB <| zB <| qR V <| qA V V V <| qN <| zX ?_
  refine zS1 (α := Nat) [(0, _), (1, _)] (fun i => [(5, .int .i64 (i : Int))]) (fun i => []) (fun i => i ≤ a.length ∧ a.take i = b.take i) (fun i => a.length - i) (0) (.keep V (.keep V (.nil))) (.keep V (.nil)) (⟨by omega, rfl⟩) (V) ?_
  rintro i ⟨hi, heq⟩
  refine zB <| zB <| qR V <| qM V V V <| qM V V V <| qE V V zA0 V <| qC V V V V V <| qN ?_
  refine zJ V (fun h14 => ?_) (fun h14 => ?_)
  ·
   have hlt : i < a.length := by simpa using h14
   obtain ⟨x, hs⟩ : ∃ q_, a[i]? = some q_ := ⟨_, zC hlt⟩
   obtain ⟨y, hs2⟩ : ∃ s, b[i]? = some s := ⟨_, zC (by omega)⟩
   refine zQ <| zB <| zX <| zB ?_
   refine zX0 [] [_] mo (by decide) V V V V ?_
   refine dO V V V (zY V V Vv) <| dO V V V (zY V V Vv) <| dO V V V (zK V zA0 sz262 (by decide) V V V (zE1 hs) Vv) ?_
   refine dO V V V (zO V V ta262 V Vv) <| dO V V V (zY V V Vv) <| dO V V V (zY V V Vv) <| dO V V V (zK V zA0 sz262 (by decide) V V V (zE1 hs2) Vv) ?_
   refine dO V V V (zO V V ta262 V Vv) <| zU V V (.cons (op_eqstruct V (by kernel_rfl) V V V (.inr Vv) Vv) .nil) ?_
   refine zP0 ?_
   refine zJ V (fun h25 => ?_) (fun h25 => ?_)
   ·
    refine zB <| qR V <| qA V V V <| qN <| zI ?_
    exact zR (.inr V) Tryz.results151 V (.of_eq (by congr 1; symm; rw [decide_eq_false_iff_not]; intro e; subst e; rw [hs2] at hs; injection hs with hs; subst hs; simp at h25)) (.bool _) Vv
   ·
    refine zQ <| qR V <| qM V V V <| qO V <| zT0 V V V V <| qA V V V <| qN ?_
    refine ⟨i + 1, by omega, ⟨by omega, ?_⟩, rfl, (.keep V (.keep V (.nil))), (.eq V (zQ1 hlt hlen) (.nil))⟩
    rw [List.take_add_one, List.take_add_one, hs, hs2, heq]
    obtain ⟨x1, x2⟩ := x; obtain ⟨y1, y2⟩ := y
    simp at h25
    rw [h25.1, h25.2]
  ·
   have hge : i = a.length := by simp at h14; omega
   refine zM1 <| zB <| qR V <| qA V V V <| qN <| zI ?_
   exact zR (.inr V) Tryz.results151 V (.of_eq (by congr 1; symm; rw [decide_eq_true_iff]; rw [hge, List.take_length, hab, List.take_length] at heq; exact heq)) (.bool _) Vv
theorem valIs_spec (s : Sch) (x : Val) (hx : okV x) (S : MS) : MCalls Tryz.prog 116 [encS s, encV x] S fun v σ' => v = .bool (isF 16 s && isVF s x) ∧ σ' = S := by
 obtain ⟨k, ins⟩ := s
 obtain ⟨n, m, s, c, w⟩ := x
 refine zM Tryz.func116 V Tryz.ntmps116 (zA V) ?_
 refine zB <| qR V <| qB V V V V V <| qB V V V V V <| qA V V V <| qN <| zB <| qR V <| qL V V V V ta53 V ?_
 refine qX V V V V co140 (Is_spec (.mk k ins) _) ?_
 refine qM V V V ?_
 refine zZ (fun h7 => ?_) (fun h7 => ?_)
 ·
  refine qL V V V V ta53 V <| qL V V V V ta27 V ?_
  refine qX V V V V co165 (isV_spec 16 (.mk k ins) h7 (.mk n m s c w) hx _) ?_
  refine qP V V V V <| qA V V V <| qN <| zI ?_
  exact zR (.inr V) Tryz.results116 V (.of_eq (by simp_all)) (.bool _) Vv
 ·
  refine qS V <| qS V <| qS V <| qP V V V V <| qA V V V <| qN <| zI ?_
  exact zR (.inr V) Tryz.results116 V (.of_eq (by simp_all)) (.bool _) Vv
theorem xSame_spec (a b : List Bs) (S : MS) : MCalls Tryz.prog 150 [.lst none 1 (a.map encX), .lst none 1 (b.map encX)] S fun v σ' => v = .bool (decide (a = b)) ∧ σ' = S := by
 refine zM Tryz.func150 V Tryz.ntmps150 (zA V) ?_
 refine zL3 (t := 0) V fun hlen => ?_
 rw [zF] at hlen
 refine zB <| qR V <| qA V V V <| qN <| zB <| zB <| qR V <| qM V V V <| qE V V zB0 V <| qM V V V <| qE V V zB0 V <| qC V V V V V <| qN ?_
 refine zJ V (fun h10 => ?_) (fun h10 => ?_)
 ·
  refine zB <| qR V <| qA V V V <| qN <| zI ?_
  exact zR (.inr V) Tryz.results150 V (.of_eq (by congr 1; symm; rw [decide_eq_false_iff_not]; intro e; subst e; simp at h10)) (.bool _) Vv
 ·
  have hab : a.length = b.length := by simp at h10; omega
  refine zQ <| zB <| zB <| qR V <| qA V V V <| qN <| zX ?_
  refine zS1 (α := Nat) [(0, _), (1, _)] (fun i => [(5, .int .i64 (i : Int))]) (fun i => []) (fun i => i ≤ a.length ∧ a.take i = b.take i) (fun i => a.length - i) (0) (.keep V (.keep V (.nil))) (.keep V (.nil)) (⟨by omega, rfl⟩) (V) ?_
  rintro i ⟨hi, heq⟩
  refine zB <| zB <| qR V <| qM V V V <| qM V V V <| qE V V zB0 V <| qC V V V V V <| qN ?_
  refine zJ V (fun h14 => ?_) (fun h14 => ?_)
  ·
   have hlt : i < a.length := by simpa using h14
   obtain ⟨x, hs⟩ : ∃ q_, a[i]? = some q_ := ⟨_, zC hlt⟩
   obtain ⟨y, hs2⟩ : ∃ s, b[i]? = some s := ⟨_, zC (by omega)⟩
   refine zQ <| zB <| zX <| zB ?_
   refine zX0 [] [_] mo (by decide) V V V V ?_
   refine dO V V V (zY V V Vv) <| dO V V V (zY V V Vv) <| dO V V V (zK V zB0 sz9 (by decide) V V V (zE1 hs) Vv) ?_
   refine dO V V V (zO V V ta9 V Vv) <| dO V V V (zY V V Vv) <| dO V V V (zY V V Vv) <| dO V V V (zK V zB0 sz9 (by decide) V V V (zE1 hs2) Vv) ?_
   refine dO V V V (zO V V ta9 V Vv) <| dO V V V (zS2 V V V V Vv) <| zP0 ?_
   refine zJ V (fun h25 => ?_) (fun h25 => ?_)
   ·
    refine zB <| qR V <| qA V V V <| qN <| zI ?_
    exact zR (.inr V) Tryz.results150 V (.of_eq (by congr 1; symm; rw [decide_eq_false_iff_not]; intro e; subst e; rw [hs2] at hs; injection hs with hs; subst hs; simp at h25)) (.bool _) Vv
   ·
    refine zQ <| qR V <| qM V V V <| qO V <| zT0 V V V V <| qA V V V <| qN ?_
    refine ⟨i + 1, by omega, ⟨by omega, ?_⟩, rfl, (.keep V (.keep V (.nil))), (.eq V (zQ1 hlt hlen) (.nil))⟩
    rw [List.take_add_one, List.take_add_one, hs, hs2, heq]
    simp at h25
    rw [h25]
  ·
   have hge : i = a.length := by simp at h14; omega
   refine zM1 <| zB <| qR V <| qA V V V <| qN <| zI ?_
   exact zR (.inr V) Tryz.results150 V (.of_eq (by congr 1; symm; rw [decide_eq_true_iff]; rw [hge, List.take_length, hab, List.take_length] at heq; exact heq)) (.bool _) Vv
theorem _root_.zE5 : type_of% @Tryz.results88 := @Tryz.results88
theorem rvSame_spec (d : Nat) : ∀ (a b : Val), vdepth a ≤ d → ∀ S : MS, MCalls Tryz.prog 88 [encV a, encV b] S fun v σ' => v = .bool (decide (a = b)) ∧ σ' = S := by
 induction d with
 | zero => rintro ⟨n, m, s, c, w⟩ b h; simp [vdepth] at h
 | succ d ih =>
 rintro ⟨n, m, s, c, w⟩ ⟨n2, m2, s2, c2, w2⟩ hd S
 have hmem : ∀ x ∈ w, vdepth x ≤ d := fun x hx => by have := vdepth_mem hx; rw [vdepth] at hd; omega
 refine zM Tryz.func88 V Tryz.ntmps88 (zA V) ?_
 refine zB <| qR V <| qB V V V V V <| qB V V V V V <| qA V V V <| qN <| zB <| zB <| qR V <| qF V V V zC5 <| qL V V V V ta22 V <| qF V V V zC5 <| qL V V V V ta22 V <| qC V V V V V <| qM V V V ?_
 refine zZ (fun h12 => ?_) (fun h12 => ?_)
 ·
  refine qT V V V V <| qS V <| qP V V V V <| qM V V V <| qT V V V V <| qS V <| qS V <| qP V V V V <| qM V V V <| qT V V V V <| qS V <| qS V <| qS V <| qP V V V V <| qM V V V ?_
  refine qT V V V V <| qS V <| qS V <| qS V <| qP V V V V <| qN <| zT V (V) <| zB <| qR V <| qA V V V <| qN <| zI ?_
  exact zR (.inr V) zE5 V (.of_eq (by congr 1; rw [zH]; simp_all <;> (intros; simp_all))) (.bool _) Vv
 ·
  refine qF V V V zI6 <| qL V V V V ta22 V <| qF V V V zI6 <| qL V V V V ta22 V <| qC V V V V V <| qP V V V V <| qM V V V ?_
  refine zZ (fun h19 => ?_) (fun h19 => ?_)
  ·
   refine qT V V V V <| qS V <| qS V <| qP V V V V <| qM V V V <| qT V V V V <| qS V <| qS V <| qS V <| qP V V V V <| qM V V V <| qT V V V V <| qS V <| qS V <| qS V <| qP V V V V ?_
   refine qN <| zT V (V) <| zB <| qR V <| qA V V V <| qN <| zI ?_
   exact zR (.inr V) zE5 V (.of_eq (by congr 1; rw [zH]; simp_all <;> (intros; simp_all))) (.bool _) Vv
  ·
   refine qF V V V zC3 <| qL V V V V ta23 V <| qF V V V zC3 <| qL V V V V ta23 V ?_
   refine qX V V V V co150 (xSame_spec s s2 _) ?_
   refine qO V <| zC1 V V <| qP V V V V <| qM V V V ?_
   refine zZ (fun h27 => ?_) (fun h27 => ?_)
   ·
    refine qT V V V V <| qS V <| qS V <| qS V <| qP V V V V <| qM V V V <| qT V V V V <| qS V <| qS V <| qS V <| qP V V V V <| qN <| zT V (V) <| zB <| qR V <| qA V V V <| qN <| zI ?_
    exact zR (.inr V) zE5 V (.of_eq (by congr 1; rw [zH]; simp_all <;> (intros; simp_all))) (.bool _) Vv
   ·
    refine qF V V V zT2 <| qL V V V V ta24 V <| qE V V zE0 V <| qF V V V zT2 <| qL V V V V ta24 V <| qE V V zE0 V <| qC V V V V V <| qP V V V V <| qM V V V ?_
    refine zZ (fun h36 => ?_) (fun h36 => ?_)
    ·
     have hcne : ¬ c = c2 := by intro e; subst e; simp at h36
     refine qT V V V V <| qS V <| qS V <| qS V <| qP V V V V <| qN <| zT V (V) <| zB <| qR V <| qA V V V <| qN <| zI ?_
     exact zR (.inr V) zE5 V (.of_eq (by congr 1; rw [zH]; simp_all <;> (intros; simp_all))) (.bool _) Vv
    ·
     have hcc : c.length = c2.length := by rw [zF, zF] at h36; simp at h36; omega
     refine qF V V V zI2 <| qL V V V V ta25 V <| qE V V zI0 V <| qF V V V zI2 <| qL V V V V ta25 V <| qE V V zI0 V <| qC V V V V V <| qP V V V V <| qN ?_
     refine zJ V (fun h44 => ?_) (fun h44 => ?_)
     ·
      have hwne : ¬ w = w2 := by intro e; subst e; simp at h44
      refine zB <| qR V <| qA V V V <| qN <| zI ?_
      exact zR (.inr V) zE5 V (.of_eq (by congr 1; rw [zH]; simp_all <;> (intros; simp_all))) (.bool _) Vv
     ·
      have hww : w.length = w2.length := by rw [zU0, zU0] at h44; simp at h44; omega
      refine zL3 (t := 29) V fun hlc => ?_
      refine zL3 (t := 38) V fun hlw => ?_
      rw [zF] at hlc
      rw [zU0] at hlw
      refine zQ <| zB <| zB <| qR V <| qA V V V <| qN <| zX ?_
      refine zS1 (α := Nat) [(2, _), (3, _)] (fun i => [(5, .int .i64 (i : Int))]) (fun i => [.cells (encV (.mk n m s c w)).cells, .cells (encV (.mk n2 m2 s2 c2 w2)).cells]) (fun i => i ≤ c.length ∧ c.take i = c2.take i) (fun i => c.length - i) (0) (.keep V (.keep V (.nil))) (.keep V (.nil)) (⟨by omega, rfl⟩) (V) ?_
      rintro i ⟨hi, heq⟩
      refine zB <| zB <| qR V <| qM V V V <| qF V V V zT2 <| qL V V V V ta24 V <| qE V V zE0 V <| qC V V V V V <| qN ?_
      refine zJ V (fun h49 => ?_) (fun h49 => ?_)
      ·
       have hlt : i < c.length := by simpa using h49
       obtain ⟨x, hs⟩ : ∃ q_, c[i]? = some q_ := ⟨_, zC hlt⟩
       obtain ⟨y, hs2⟩ : ∃ s, c2[i]? = some s := ⟨_, zC (by omega)⟩
       refine zQ <| zB <| zX <| zB ?_
       refine zX0 [] [_] mo (by decide) V V V V ?_
       refine dO V V V (zE V V zT2 Vv) <| dO V V V (zO0 V V V ta24 V Vv) <| dO V V V (zY V V Vv) <| dO V V V (zK V zE0 sz202 (by decide) V V V (zE1 hs) Vv) ?_
       refine dO V V V (zO V V ta202 V Vv) <| dO V V V (zE V V zT2 Vv) <| dO V V V (zO0 V V V ta24 V Vv) <| dO V V V (zY V V Vv) <| dO V V V (zK V zE0 sz202 (by decide) V V V (zE1 hs2) Vv) ?_
       refine dO V V V (zO V V ta202 V Vv) <| zU V V (.cons (zD1 V V V co151 (rSameC_spec x y _)) .nil) <| dO V V V (zC1 V V Vv) <| zP0 ?_
       refine zJ V (fun h63 => ?_) (fun h63 => ?_)
       ·
        refine zB <| qR V <| qA V V V <| qN <| zI ?_
        exact zR (.inr V) zE5 V (.of_eq (by congr 1; symm; rw [decide_eq_false_iff_not]; intro e; injection e with e1 e2 e3 e4 e5; subst e4; rw [hs2] at hs; injection hs with hs; subst hs; simp at h63)) (.bool _) Vv
       ·
        refine zQ <| qR V <| qM V V V <| qO V <| zT0 V V V V <| qA V V V <| qN ?_
        refine ⟨i + 1, by omega, ⟨by omega, ?_⟩, rfl, (.keep V (.keep V (.nil))), (.eq V (zQ1 hlt hlc) (.nil))⟩
        rw [List.take_add_one, List.take_add_one, hs, hs2, heq, not_dec h63]
      ·
       have hge : i = c.length := by simp at h49; omega
       rw [hge, List.take_length, hcc, List.take_length] at heq
       refine zM1 <| zB <| zB <| qR V <| qA V V V <| qN <| zX ?_
       refine zS1 (α := Nat) [(2, _), (3, _)] (fun k => [(6, .int .i64 (k : Int))]) (fun k => [.cells (encV (.mk n m s c w)).cells, .cells (encV (.mk n2 m2 s2 c2 w2)).cells]) (fun k => k ≤ w.length ∧ w.take k = w2.take k) (fun k => w.length - k) (0) (.keep V (.keep V (.nil))) (.keep V (.nil)) (⟨by omega, rfl⟩) (V) ?_
       rintro k ⟨hk, heq2⟩
       refine zB <| zB <| qR V <| qM V V V <| qF V V V zI2 <| qL V V V V ta25 V <| qE V V zI0 V <| qC V V V V V <| qN ?_
       refine zJ V (fun h68 => ?_) (fun h68 => ?_)
       ·
        rw [zU0] at h68
        have hlt2 : k < w.length := by simpa using h68
        obtain ⟨⟨n3, m3, s3, c3, w3⟩, hs3⟩ : ∃ q, w[k]? = some q := ⟨_, zC hlt2⟩
        obtain ⟨⟨n4, m4, s4, c4, w4⟩, hs4⟩ : ∃ q, w2[k]? = some q := ⟨_, zC (by omega)⟩
        refine zQ <| zB <| zX <| zB ?_
        refine zX0 [] [_] mo (by decide) V V V V ?_
        refine dO V V V (zE V V zI2 Vv) <| dO V V V (zO0 V V V ta25 V Vv) <| dO V V V (zY V V Vv) <| dO V V V (zK V zI0 sz27 (by decide) V V V (zK4 hs3) Vv) ?_
        refine dO V V V (zO V V ta27 V Vv) <| dO V V V (zE V V zI2 Vv) <| dO V V V (zO0 V V V ta25 V Vv) <| dO V V V (zY V V Vv) <| dO V V V (zK V zI0 sz27 (by decide) V V V (zK4 hs4) Vv) ?_
        refine dO V V V (zO V V ta27 V Vv) <| zU V V (.cons (zD1 V V V co88 (ih (.mk n3 m3 s3 c3 w3) (.mk n4 m4 s4 c4 w4) (hmem _ (zW hs3)) _)) .nil) <| dO V V V (zC1 V V Vv) <| zP0 ?_
        refine zJ V (fun h82 => ?_) (fun h82 => ?_)
        ·
         refine zB <| qR V <| qA V V V <| qN <| zI ?_
         exact zR (.inr V) zE5 V (.of_eq (by congr 1; symm; rw [decide_eq_false_iff_not]; intro e; injection e with e1 e2 e3 e4 e5; subst e5; rw [hs4] at hs3; injection hs3 with hs3; rw [hs3] at h82; simp at h82)) (.bool _) Vv
        ·
         refine zQ <| qR V <| qM V V V <| qO V <| zT0 V V V V <| qA V V V <| qN ?_
         refine ⟨k + 1, by omega, ⟨by omega, ?_⟩, rfl, (.keep V (.keep V (.nil))), (.eq V (zQ1 hlt2 hlw) (.nil))⟩
         rw [List.take_add_one, List.take_add_one, hs3, hs4, heq2, not_dec h82]
       ·
        rw [zU0] at h68
        have hge2 : k = w.length := by simp at h68; omega
        rw [hge2, List.take_length, hww, List.take_length] at heq2
        refine zM1 <| zB <| qR V <| qA V V V <| qN <| zI ?_
        exact zR (.inr V) zE5 V (.of_eq (by congr 1; rw [zH]; simp_all)) (.bool _) Vv
theorem rSame_spec (a b : Val) (S : MS) : MCalls Tryz.prog 88 [encV a, encV b] S fun v σ' => v = .bool (decide (a = b)) ∧ σ' = S := rvSame_spec _ a b (Nat.le_refl _) S
theorem goP_snoc {F : Sch → Val → Val → Option Val} : ∀ {ins : List Sch} {w1 w2 : List Val} {i : Nat} {acc : List Val} {s : Sch} {x y v : Val}, goP ((ins.take i).map F) w1 w2 = some acc → ins[i]? = some s → w1[i]? = some x → w2[i]? = some y → F s x y = some v → goP ((ins.take (i + 1)).map F) w1 w2 = some (acc ++ [v])
 | [], _, _, _, _, _, _, _, _, _, h, _, _, _ => by simp at h
 | _ :: _, [], _, _, _, _, _, _, _, _, _, h, _, _ => by simp at h
 | _ :: _, _ :: _, [], _, _, _, _, _, _, _, _, _, h, _ => by simp at h
 | s0 :: ins, x0 :: w1, y0 :: w2, 0, acc, s, x, y, v, h, hs, hx, hy, hv => by
  simp only [List.getElem?_cons_zero, Option.some.injEq] at hs hx hy
  subst hs hx hy
  simp [goP] at h
  subst h
  simp [goP, hv]
 | s0 :: ins, x0 :: w1, y0 :: w2, i + 1, acc, s, x, y, v, h, hs, hx, hy, hv => by
  simp only [List.getElem?_cons_succ] at hs hx hy
  rw [List.take_succ_cons, List.map_cons, goP] at h ⊢
  cases hF : F s0 x0 y0 with
  | none => rw [hF] at h; cases h
  | some u =>
   rw [hF] at h
   cases hg : goP ((ins.take i).map F) w1 w2 with
   | none => rw [hg] at h; cases h
   | some l =>
    rw [hg] at h
    simp at h
    subst h
    dsimp only
    rw [goP_snoc hg hs hx hy hv]
    rfl
theorem goP_bad {F : Sch → Val → Val → Option Val} : ∀ {ins : List Sch} {w1 w2 : List Val} {i : Nat} {s : Sch} {x y : Val}, ins[i]? = some s → w1[i]? = some x → w2[i]? = some y → F s x y = none → goP (ins.map F) w1 w2 = none
 | [], _, _, _, _, _, _, h, _, _, _ => by simp at h
 | _ :: _, [], _, _, _, _, _, _, h, _, _ => by simp at h
 | _ :: _, _ :: _, [], _, _, _, _, _, _, h, _ => by simp at h
 | s0 :: ins, x0 :: w1, y0 :: w2, 0, s, x, y, hs, hx, hy, hv => by
  simp only [List.getElem?_cons_zero, Option.some.injEq] at hs hx hy
  subst hs hx hy
  simp [goP, hv]
 | s0 :: ins, x0 :: w1, y0 :: w2, i + 1, s, x, y, hs, hx, hy, hv => by
  simp only [List.getElem?_cons_succ] at hs hx hy
  rw [List.map_cons, goP, goP_bad hs hx hy hv]
  cases F s0 x0 y0 <;> rfl
theorem goP_len {fs : List (Val → Val → Option Val)} : ∀ {w1 w2 : List Val} {l : List Val}, goP fs w1 w2 = some l → l.length ≤ fs.length := by
 induction fs with
 | nil => intro w1 w2 l h; simp [goP] at h; subst h; simp
 | cons f fs ih =>
  intro w1 w2 l h
  cases w1 with
  | nil => simp [goP] at h; subst h; simp
  | cons x w1 =>
   cases w2 with
   | nil => simp [goP] at h; subst h; simp
   | cons y w2 =>
    rw [goP] at h
    cases hf : f x y with
    | none => rw [hf] at h; cases h
    | some v =>
     rw [hf] at h
     cases hg : goP fs w1 w2 with
     | none => rw [hg] at h; cases h
     | some q => rw [hg] at h; simp at h; subst h; have := ih hg; simp; omega
theorem cl_outV {acc : List Val} {t n : Nat} (ht : t < n) : (MObj.cells [.int .u64 0, .int .u64 0, .lst0, .lst0, .lst (some t) 5 (encVs acc)]).cl n := by
 intro x hx
 simp only [List.mem_cons, List.not_mem_nil, or_false] at hx
 rcases hx with rfl | rfl | rfl | rfl | rfl
 ·exact .int _ _
 ·exact .int _ _
 ·exact .lst0
 ·exact .lst0
 ·rw [encVs_eq]; exact zC6 ht (fun v => zV1 n v) (fun v => by cases v; exact .inl rfl)
theorem cap_t {v : Val} (h : largeF v = true) : capF (some v) = none := by simp [capF, h]
theorem cap_f {v : Val} (h : largeF v = false) : capF (some v) = some v := by simp [capF, h]
theorem pairs_specJ (k : Int) (ins : List Sch) (hil : ins.length ≤ 40) (f : Sch → Val → Val → Option Val) (n1 m1 : Int) (s1 : List Bs) (c1 : List (List Tk)) (w1 : List Val) (n2 m2 : Int) (s2 : List Bs) (c2 : List (List Tk)) (w2 : List Val) (hl1 : w1.length = ins.length) (hl2 : w2.length = ins.length) (hb : ∀ (i : Nat) (s : Sch) (x y : Val), ins[i]? = some s → w1[i]? = some x → w2[i]? = some y → ∀ S : MS, MCalls Tryz.prog 188 [encS s, encV x, encV y] S fun v σ' => v = encO (f s x y) ∧ σ' = S) (S : MS) : MCalls Tryz.prog 230 [encS (.mk k ins), encV (.mk n1 m1 s1 c1 w1), encV (.mk n2 m2 s2 c2 w2)] S fun v σ' => v = encO (pairF2 (ins.map f) (.mk n1 m1 s1 c1 w1) (.mk n2 m2 s2 c2 w2)) ∧ σ' = S := by
 refine zM Tryz.func230 V Tryz.ntmps230 (zA V) ?_
 have hlen : ins.length ≤ maxLen := by simp only [maxLen]; omega
 refine zB <| qR V <| qB V V V V V <| qB V V V V V <| qB V V V V V <| qO V <| zN0 V zm27 V V <| qA V V V <| qN <| zB <| qR V <| qO V <| zN0 V zm27 V V <| qN <| zB <| zB <| qR V <| qF V V V zS3 <| qL V V V V ta51 V <| qE V V zQ0 V <| qM V V V <| qN ?_
 refine zX <| mwp_cellrowAt 4 4 27 5 V V (Nat.le_refl _) V V ?_
 refine zD4 (α := Nat × List Val) [(4, _), (5, _), (6, _), (8, _), (14, _), (15, _)] (fun x => [(16, .int .i64 (x.1 : Int))]) (fun x => [.cells (encS (.mk k ins)).cells, .cells (encV (.mk n1 m1 s1 c1 w1)).cells, .cells (encV (.mk n2 m2 s2 c2 w2)).cells, .cells [.int .u64 0, .int .u64 0, .lst0, .lst0, .lst0], .cells [.int .u64 0, .int .u64 0, .lst0, .lst0, .lst (some (S.length + 5)) 5 (encVs x.2)], .row 27 5 x.2.length]) (fun x => x.1 ≤ ins.length ∧ goP ((ins.take x.1).map f) w1 w2 = some x.2) (fun x => ins.length - x.1) (⟨0, []⟩) (Nat.le_refl _) (.keep V (.keep V (.keep V (.keep V (.keep V (.keep V (.nil))))))) (.keep V (.nil)) (⟨by simp, by simp [goP]⟩) (V) ?_
 rintro ⟨i, acc⟩ ⟨hi, he⟩
 dsimp only at hi he ⊢
 have hal : acc.length ≤ 1000 := by have h1 := goP_len he; rw [zF, List.length_take] at h1; omega
 refine zB <| qR V <| qC V V V V V <| qN <| zB ?_
 refine zJ V (fun h17 => ?_) (fun h17 => ?_)
 ·
  rw [zI3] at h17
  have hlt : i < ins.length := by simpa using h17
  obtain ⟨⟨k1, i1⟩, hs⟩ : ∃ q, ins[i]? = some q := ⟨_, zC hlt⟩
  obtain ⟨x, hx⟩ : ∃ q, w1[i]? = some q := ⟨_, zC (by omega)⟩
  obtain ⟨y, hy⟩ : ∃ q, w2[i]? = some q := ⟨_, zC (by omega)⟩
  obtain ⟨xn, xm, xs, xc, xw⟩ := x
  obtain ⟨yn, ym, ys, yc, yw⟩ := y
  refine zQ <| zB <| zX <| zB <| qR V <| qM V V V <| qO V <| zK V zQ0 sz53 (by decide) V V V (encSs_get hs) ?_
  refine qO V <| zO V V ta53 V <| qO V <| zN0 V zm53 V V <| qA V V V <| qO V <| zC0 V V V V sz53 V V (zA V) V <| qN <| zB ?_
  have hof := hb i _ _ _ hs hx hy
  rcases hf : f (.mk k1 i1) (.mk xn xm xs xc xw) (.mk yn ym ys yc yw) with _ | ⟨⟨n3, m3, s3, c3, w3⟩⟩ <;> rw [hf] at hof
  ·
   refine zX0 [15, 16] [_, S ++ [.cells (encS (.mk k ins)).cells, .cells (encV (.mk n1 m1 s1 c1 w1)).cells, .cells (encV (.mk n2 m2 s2 c2 w2)).cells, .cells [.int .u64 0, .int .u64 0, .lst0, .lst0, .lst0], .cells [.int .u64 0, .int .u64 0, .lst0, .lst0, .lst (some (S.length + 5)) 5 ((encVs acc))], .row 27 5 acc.length, .cells (encS (.mk k1 i1)).cells, .cells [.int .u64 0, .int .u64 0, .lst0, .lst0, .lst0]], S ++ [.cells (encS (.mk k ins)).cells, .cells (encV (.mk n1 m1 s1 c1 w1)).cells, .cells (encV (.mk n2 m2 s2 c2 w2)).cells, .cells [.int .u64 0, .int .u64 0, .lst0, .lst0, .lst0], .cells [.int .u64 0, .int .u64 0, .lst0, .lst0, .lst (some (S.length + 5)) 5 ((encVs acc))], .row 27 5 acc.length, .cells (encS (.mk k1 i1)).cells, .cells (encV noV).cells]] mo (by decide) V V V V ?_
   refine zU V V (.cons (zO0 V V V ta53 V Vv) (.cons (zO0 V V V ta53 V Vv) (.nil))) <| zU V V (.cons (zE V V zI2 Vv) (.cons (zE V V zI2 Vv) (.nil))) <| zU V V (.cons (zO0 V V V ta25 V Vv) (.cons (zO0 V V V ta25 V Vv) (.nil))) <| zU V V (.cons (zY V V Vv) (.cons (zY V V Vv) (.nil))) <| zU V V (.cons (zK V zI0 sz27 (by decide) V V V (zK4 hx) Vv) (.cons (zK V zI0 sz27 (by decide) V V V (zK4 hx) Vv) (.nil))) ?_
   refine zU V V (.cons (zO V V ta27 V Vv) (.cons (zO V V ta27 V Vv) (.nil))) <| zU V V (.cons (zE V V zI2 Vv) (.cons (zE V V zI2 Vv) (.nil))) <| zU V V (.cons (zO0 V V V ta25 V Vv) (.cons (zO0 V V V ta25 V Vv) (.nil))) <| zU V V (.cons (zY V V Vv) (.cons (zY V V Vv) (.nil))) <| zU V V (.cons (zK V zI0 sz27 (by decide) V V V (zK4 hy) Vv) (.cons (zK V zI0 sz27 (by decide) V V V (zK4 hy) Vv) (.nil))) ?_
   refine zU V V (.cons (zO V V ta27 V Vv) (.cons (zO V V ta27 V Vv) (.nil))) <| zU V V (.cons (zD1 V V V co188 (hof _)) (.cons (zD1 V V V co188 (hof _)) (.nil))) <| zU V V (.cons (zY V V Vv) (.cons (zY V V Vv) (.nil))) <| zU V V (.cons (zJ0 V V V Vv) (.cons (zJ0 V V V Vv) (.nil))) <| zU V V (.cons (zJ0 V V V Vv) (.cons (zJ0 V V V Vv) (.cons (zJ0 V V V Vv) (.nil)))) <| zB1 V V V V (zN0 V zm27 V V Vv) <| zB1 V V V V (zC0 V V V V sz27 V V (zA V) V Vv) <| dO V V V (zF1 V V Vv) <| zP0 <| zB <| zB <| qR V <| qM V V V <| qO V <| zR3 V zG0 V V (.inr Vv) <| qN <| zT V (V) <| zB <| qR V <| qO V <| zA1 V zU1 zm27 .nil (by kernel_rfl) ?_
   refine qM V V V <| qO V <| zC0 V V V V sz27 V V (zA V) V <| qA V V V <| qN <| zI ?_
   exact zN1 (.inr V) Tryz.results230 V V ta27 V (.agg (.cons (.refl _) (.cons (.refl _) (.cons (.nil 1) (.cons (.nil 1) (.cons (.nil 5) .nil)))))) (zV1 _ (noV)) V (.refl _) (.iface _ _ (.int _ _)) ⟨by rw [show pairF2 (ins.map f) (.mk n1 m1 s1 c1 w1) (.mk n2 m2 s2 c2 w2) = none from by rw [pairF2]; show (goP (ins.map f) w1 w2).map _ = none; rw [goP_bad hs hx hy hf]; rfl]; rfl, rfl⟩
  ·
   refine zX0 [15, 16] [_, S ++ [.cells (encS (.mk k ins)).cells, .cells (encV (.mk n1 m1 s1 c1 w1)).cells, .cells (encV (.mk n2 m2 s2 c2 w2)).cells, .cells [.int .u64 0, .int .u64 0, .lst0, .lst0, .lst0], .cells [.int .u64 0, .int .u64 0, .lst0, .lst0, .lst (some (S.length + 5)) 5 ((encVs acc))], .row 27 5 acc.length, .cells (encS (.mk k1 i1)).cells, .cells [.int .u64 0, .int .u64 0, .lst0, .lst0, .lst0]], S ++ [.cells (encS (.mk k ins)).cells, .cells (encV (.mk n1 m1 s1 c1 w1)).cells, .cells (encV (.mk n2 m2 s2 c2 w2)).cells, .cells [.int .u64 0, .int .u64 0, .lst0, .lst0, .lst0], .cells [.int .u64 0, .int .u64 0, .lst0, .lst0, .lst (some (S.length + 5)) 5 ((encVs acc))], .row 27 5 acc.length, .cells (encS (.mk k1 i1)).cells, .cells (encV (.mk n3 m3 s3 c3 w3)).cells]] mo (by decide) V V V V ?_
   refine zU V V (.cons (zO0 V V V ta53 V Vv) (.cons (zO0 V V V ta53 V Vv) (.nil))) <| zU V V (.cons (zE V V zI2 Vv) (.cons (zE V V zI2 Vv) (.nil))) <| zU V V (.cons (zO0 V V V ta25 V Vv) (.cons (zO0 V V V ta25 V Vv) (.nil))) <| zU V V (.cons (zY V V Vv) (.cons (zY V V Vv) (.nil))) <| zU V V (.cons (zK V zI0 sz27 (by decide) V V V (zK4 hx) Vv) (.cons (zK V zI0 sz27 (by decide) V V V (zK4 hx) Vv) (.nil))) ?_
   refine zU V V (.cons (zO V V ta27 V Vv) (.cons (zO V V ta27 V Vv) (.nil))) <| zU V V (.cons (zE V V zI2 Vv) (.cons (zE V V zI2 Vv) (.nil))) <| zU V V (.cons (zO0 V V V ta25 V Vv) (.cons (zO0 V V V ta25 V Vv) (.nil))) <| zU V V (.cons (zY V V Vv) (.cons (zY V V Vv) (.nil))) <| zU V V (.cons (zK V zI0 sz27 (by decide) V V V (zK4 hy) Vv) (.cons (zK V zI0 sz27 (by decide) V V V (zK4 hy) Vv) (.nil))) ?_
   refine zU V V (.cons (zO V V ta27 V Vv) (.cons (zO V V ta27 V Vv) (.nil))) <| zU V V (.cons (zD1 V V V co188 (hof _)) (.cons (zD1 V V V co188 (hof _)) (.nil))) <| zU V V (.cons (zY V V Vv) (.cons (zY V V Vv) (.nil))) <| zU V V (.cons (zJ0 V V V Vv) (.cons (zJ0 V V V Vv) (.nil))) <| zU V V (.cons (zJ0 V V V Vv) (.cons (zJ0 V V V Vv) (.cons (zJ0 V V V Vv) (.nil)))) <| zB1 V V V V (zN0 V zm27 V V Vv) <| zB1 V V V V (zC0 V V V V sz27 V V (zA V) V Vv) <| dO V V V (zF1 V V Vv) <| zP0 <| zB <| zB <| qR V <| qM V V V <| qO V <| zF4 V zG0 V V (.inr Vv) <| qN <| zL V (V) <| zQ <| qR V <| qF V V V zI2 <| qL V V V V ta25 V <| qL V V V V ta27 V <| qO V <| zJ1 V zI0 el27 V V (by decide) (by decide) V V ?_
   refine qO V <| zN3 V zI0 el27 V V V (by simp [zU0]) (by simp [zU0]; omega) (by simp [zU0]; omega) V ?_
   refine qF V V V zI2 <| qO V <| zC0 V V V V sz25 V V (zA V) V <| qN <| qR V <| qO V <| zT0 V V V V <| qM V V V <| qN ?_
   refine ⟨⟨i + 1, acc ++ [.mk n3 m3 s3 c3 w3]⟩, _, by dsimp only; omega, ⟨by dsimp only; omega, goP_snoc he hs hx hy hf⟩, by simp only [encVs_append, zG]; rfl, .same (.same (.same (.same (.new (cl_outV (by simp)) (.new trivial .nil))))), (.old V V (.old V V (.old V V (.old V V (.old V V (.old V V (.nil))))))), (.new' V (zQ1 hlt hlen) (.int _ _) (.nil))⟩
 ·
  rw [zI3] at h17
  have hge : i = ins.length := by simp at h17; omega
  refine zM1 <| zB <| qR V <| qL V V V V ta27 V <| qO V <| zC0 V V V V sz27 V V (zA V) V <| qA V V V <| qN <| zI ?_
  exact zN1 (.inr V) Tryz.results230 V V ta27 V (.agg (.cons (.refl _) (.cons (.refl _) (.cons (.nil 1) (.cons (.nil 1) (.cons (.view _ _ _) .nil)))))) (zV1 _ (.mk 0 0 [] [] acc)) V (.refl _) (.iface0) ⟨by rw [show pairF2 (ins.map f) (.mk n1 m1 s1 c1 w1) (.mk n2 m2 s2 c2 w2) = some _ from by rw [pairF2]; show (goP (ins.map f) w1 w2).map _ = _; rw [hge, List.take_length] at he; rw [he]; rfl]; rfl, rfl⟩
theorem max_if (a b : Int) : (if b > a then b else a) = max a b := by split <;> omega
theorem isV3 {ins : List Sch} {n m : Int} {s : List Bs} {c : List (List Tk)} {w : List Val} (h : isVF (.mk 3 ins) (.mk n m s c w) = true) : s.length ≤ 40 := by
 rw [zM2 3] at h; simp [isRowF] at h; omega
theorem isV4 {t : Sch} {n m : Int} {s : List Bs} {c : List (List Tk)} {w : List Val} (h : isVF (.mk 4 [t]) (.mk n m s c w) = true) : s.length ≤ 40 ∧ s.length = w.length ∧ ∀ x ∈ w, isVF t x = true := by
 rw [zM2 4] at h
 simp only [Int.reduceEq, if_false, if_true, isVL, List.headD_cons, Bool.and_eq_true, decide_eq_true_eq, List.all_eq_true, isRowF] at h
 exact ⟨h.2.1.1.1.1, h.2.1.2, fun x hx => (h.2.2 x hx).1⟩
theorem isV5 {t u : Sch} {n m : Int} {s : List Bs} {c : List (List Tk)} {w : List Val} (h : isVF (.mk 5 [t, u]) (.mk n m s c w) = true) : ∃ x y, w = [x, y] ∧ isVF t x = true ∧ isVF u y = true := by
 rw [zM2 5] at h
 match w, h with
 | [], h => simp at h
 | [_], h => simp at h
 | [x, y], h => exact ⟨x, y, rfl, by simp [isVL] at h; exact h.2⟩
 | _ :: _ :: _ :: _, h => simp at h
theorem isV7 {ins : List Sch} {n m : Int} {s : List Bs} {c : List (List Tk)} {w : List Val} (h : isVF (.mk 7 ins) (.mk n m s c w) = true) : ∀ x ∈ c, x.length ≤ 40 := by
 rw [zM2 7] at h
 match c, h with
 | [], _ => simp
 | [x], h => simp [isClockF] at h; simp; omega
 | _ :: _ :: _, h => simp at h
theorem isV8 {t : Sch} {n m : Int} {s : List Bs} {c : List (List Tk)} {w : List Val} (h : isVF (.mk 8 [t]) (.mk n m s c w) = true) : c.length ≤ 40 ∧ c.length = w.length ∧ (∀ x ∈ c, x.length ≤ 40) ∧ ∀ x ∈ w, isVF t x = true := by
 rw [zM2 8] at h
 simp only [Int.reduceEq, if_false, isVL, List.headD_cons, Bool.and_eq_true, decide_eq_true_eq, List.all_eq_true, isCauseF, isClockF] at h
 refine ⟨h.1.2, h.2.1.1, fun x hx => ?_, fun x hx => h.2.2 x hx⟩
 have := h.2.1.2.1 x hx
 omega
theorem _root_.zI4 : type_of% @Tryz.ntmps188 := @Tryz.ntmps188
theorem _root_.zL1 : type_of% @Tryz.underlying49 := @Tryz.underlying49
theorem _root_.zC2 : type_of% @Tryz.results188 := @Tryz.results188
theorem both_spec (d : Nat) : ∀ (t : Sch), isF d t = true → ∀ (a b : Val), isVF t a = true → isVF t b = true → ∀ S : MS, MCalls Tryz.prog 188 [encS t, encV a, encV b] S fun v σ' => v = encO (bothF t a b) ∧ σ' = S := by
 induction d with
 | zero => intro s h; simp [isF] at h
 | succ d ih =>
 rintro ⟨k, ins⟩ hd ⟨n1, m1, s1, c1, w1⟩ ⟨n2, m2, s2, c2, w2⟩ ha hb S
 rw [isF] at hd
 simp only [Bool.and_eq_true, List.all_eq_true, beq_iff_eq] at hd
 rcases k8_of hd.1 with rfl | rfl | rfl | rfl | rfl | rfl | rfl | rfl
 ·
  have hB : bothB 1 (bothL ins) (.mk n1 m1 s1 c1 w1) (.mk n2 m2 s2 c2 w2) = some (.mk (max n1 n2) 0 [] [] []) := rfl
  refine zM zE4 V zI4 (zA V) ?_
  refine zB <| qR V <| qB V V V V V <| qB V V V V V <| qB V V V V V <| qO V <| zN0 V zm27 V V <| qA V V V <| qN <| zB <| zB <| qR V <| qF V V V zJ2 <| qL V V V V ta3 V <| qN <| zX <| zB <| zB <| qR V <| qC V V V V V <| qA V V V <| qN ?_
  refine zT V (V) <| zQ <| zT V (V) <| qR V <| qF V V V zC5 <| qL V V V V ta22 V <| qF V V V zC5 <| qL V V V V ta22 V <| qO V <| op_max2' V V V (max_if n1 n2) <| qF V V V zC5 <| qO V <| zC0 V V V V sz22 V V (zA V) V <| qN <| zB <| zB <| qR V <| qM V V V <| qO V <| zF4 V zG0 V V (.inl Vv) <| qM V V V <| qO V <| zZ1 (y := encV (.mk (max n1 n2) 0 [] [] [])) (zO0 V V V ta27 V Vv) (.agg (.cons (.refl _) (.cons (.refl _) (.cons (.nil 1) (.cons (.nil 1) (.cons (.nil 5) .nil)))))) ?_
  refine qX V V V V co234 (zL5 (max n1 n2) 0 [] [] [] _) ?_
  refine qP V V V V <| qN ?_
  refine zJ V (fun h69 => ?_) (fun h69 => ?_)
  ·
   refine qR V <| qO V <| zR1 V V zL1 (by simp) ?_
   refine qA V V V <| qN <| zB <| zB <| qR V <| qM V V V <| qO V <| zR3 V zG0 V V (.inr Vv) <| qN <| zT V (V) <| zB <| qR V <| qO V <| zA1 V zU1 zm27 .nil (by kernel_rfl) ?_
   refine qM V V V <| qO V <| zC0 V V V V sz27 V V (zA V) V <| qA V V V <| qN <| zI ?_
   exact zN1 (.inr V) zC2 V V ta27 V (.agg (.cons (.refl _) (.cons (.refl _) (.cons (.nil 1) (.cons (.nil 1) (.cons (.nil 5) .nil)))))) (zV1 _ (noV)) V (.refl _) (.iface _ _ (.int _ _)) ⟨by rw [zH4, hB, cap_t h69]; rfl, rfl⟩
  ·
   refine zQ <| zB <| zB <| qR V <| qM V V V <| qO V <| zF4 V zG0 V V (.inr Vv) <| qN <| zL V (V) <| zQ <| zB <| qR V <| qO V <| zZ1 (y := encV (.mk (max n1 n2) 0 [] [] [])) (zO0 V V V ta27 V Vv) (.agg (.cons (.refl _) (.cons (.refl _) (.cons (.nil 1) (.cons (.nil 1) (.cons (.nil 5) .nil)))))) <| qO V <| zC0 V V V V sz27 V V (zA V) V <| qA V V V <| qN <| zI ?_
   exact zN1 (.inr V) zC2 V V ta27 V (.refl _) (zV1 _ (.mk (max n1 n2) 0 [] [] [])) V (.refl _) (.iface0) ⟨by rw [zH4, hB, cap_f h69]; rfl, rfl⟩
 ·
  have hB : bothB 2 (bothL ins) (.mk n1 m1 s1 c1 w1) (.mk n2 m2 s2 c2 w2) = some (.mk (max n1 n2) 0 [] [] []) := rfl
  refine zM zE4 V zI4 (zA V) ?_
  refine zB <| qR V <| qB V V V V V <| qB V V V V V <| qB V V V V V <| qO V <| zN0 V zm27 V V <| qA V V V <| qN <| zB <| zB <| qR V <| qF V V V zJ2 <| qL V V V V ta3 V <| qN <| zX <| zB <| zB <| qR V <| qC V V V V V <| qA V V V <| qN ?_
  refine zL V (V) <| qR V <| qC V V V V V <| qA V V V <| qN <| zT V (V) <| qR V <| qF V V V zC5 <| qL V V V V ta22 V <| qF V V V zC5 <| qL V V V V ta22 V <| qO V <| op_max2' V V V (max_if n1 n2) <| qF V V V zC5 <| qO V <| zC0 V V V V sz22 V V (zA V) V <| qN <| zB <| zB <| qR V <| qM V V V <| qO V <| zF4 V zG0 V V (.inl Vv) ?_
  refine qM V V V <| qO V <| zZ1 (y := encV (.mk (max n1 n2) 0 [] [] [])) (zO0 V V V ta27 V Vv) (.agg (.cons (.refl _) (.cons (.refl _) (.cons (.nil 1) (.cons (.nil 1) (.cons (.nil 5) .nil)))))) ?_
  refine qX V V V V co234 (zL5 (max n1 n2) 0 [] [] [] _) ?_
  refine qP V V V V <| qN ?_
  refine zJ V (fun h69 => ?_) (fun h69 => ?_)
  ·
   refine qR V <| qO V <| zR1 V V zL1 (by simp) ?_
   refine qA V V V <| qN <| zB <| zB <| qR V <| qM V V V <| qO V <| zR3 V zG0 V V (.inr Vv) <| qN <| zT V (V) <| zB <| qR V <| qO V <| zA1 V zU1 zm27 .nil (by kernel_rfl) ?_
   refine qM V V V <| qO V <| zC0 V V V V sz27 V V (zA V) V <| qA V V V <| qN <| zI ?_
   exact zN1 (.inr V) zC2 V V ta27 V (.agg (.cons (.refl _) (.cons (.refl _) (.cons (.nil 1) (.cons (.nil 1) (.cons (.nil 5) .nil)))))) (zV1 _ (noV)) V (.refl _) (.iface _ _ (.int _ _)) ⟨by rw [zH4, hB, cap_t h69]; rfl, rfl⟩
  ·
   refine zQ <| zB <| zB <| qR V <| qM V V V <| qO V <| zF4 V zG0 V V (.inr Vv) <| qN <| zL V (V) <| zQ <| zB <| qR V <| qO V <| zZ1 (y := encV (.mk (max n1 n2) 0 [] [] [])) (zO0 V V V ta27 V Vv) (.agg (.cons (.refl _) (.cons (.refl _) (.cons (.nil 1) (.cons (.nil 1) (.cons (.nil 5) .nil)))))) <| qO V <| zC0 V V V V sz27 V V (zA V) V <| qA V V V <| qN <| zI ?_
   exact zN1 (.inr V) zC2 V V ta27 V (.refl _) (zV1 _ (.mk (max n1 n2) 0 [] [] [])) V (.refl _) (.iface0) ⟨by rw [zH4, hB, cap_f h69]; rfl, rfl⟩
 ·
  have b1 := isV3 ha
  have b2 := isV3 hb
  have hB : bothB 3 (bothL ins) (.mk n1 m1 s1 c1 w1) (.mk n2 m2 s2 c2 w2) = some (.mk 0 0 (bothX s1 s2) [] []) := rfl
  refine zM zE4 V zI4 (zA V) ?_
  refine zB <| qR V <| qB V V V V V <| qB V V V V V <| qB V V V V V <| qO V <| zN0 V zm27 V V <| qA V V V <| qN <| zB <| zB <| qR V <| qF V V V zJ2 <| qL V V V V ta3 V <| qN <| zX <| zB <| zB <| qR V <| qC V V V V V <| qA V V V <| qN ?_
  refine zL V (V) <| qR V <| qC V V V V V <| qA V V V <| qN <| zL V (V) <| zB <| qR V <| qC V V V V V <| qA V V V <| qN <| zT V (V) <| qR V <| qF V V V zC3 <| qL V V V V ta23 V <| qF V V V zC3 <| qL V V V V ta23 V ?_
  refine qX V V V V co228 (rowsBoth_spec s1 s2 (by omega) _) ?_
  refine qF V V V zC3 <| qO V <| zC0 V V V V sz23 V V (zA V) V <| qN <| zB <| zB <| qR V <| qM V V V <| qO V <| zF4 V zG0 V V (.inl Vv) <| qM V V V <| qO V <| zZ1 (y := encV (.mk 0 0 (bothX s1 s2) [] [])) (zO0 V V V ta27 V Vv) (.agg (.cons (.refl _) (.cons (.refl _) (.cons (.refl _) (.cons (.nil 1) (.cons (.nil 5) .nil)))))) ?_
  refine qX V V V V co234 (zL5 0 0 (bothX s1 s2) [] [] _) ?_
  refine qP V V V V <| qN ?_
  refine zJ V (fun h69 => ?_) (fun h69 => ?_)
  ·
   refine qR V <| qO V <| zR1 V V zL1 (by simp) ?_
   refine qA V V V <| qN <| zB <| zB <| qR V <| qM V V V <| qO V <| zR3 V zG0 V V (.inr Vv) <| qN <| zT V (V) <| zB <| qR V <| qO V <| zA1 V zU1 zm27 .nil (by kernel_rfl) ?_
   refine qM V V V <| qO V <| zC0 V V V V sz27 V V (zA V) V <| qA V V V <| qN <| zI ?_
   exact zN1 (.inr V) zC2 V V ta27 V (.agg (.cons (.refl _) (.cons (.refl _) (.cons (.nil 1) (.cons (.nil 1) (.cons (.nil 5) .nil)))))) (zV1 _ (noV)) V (.refl _) (.iface _ _ (.int _ _)) ⟨by rw [zH4, hB, cap_t h69]; rfl, rfl⟩
  ·
   refine zQ <| zB <| zB <| qR V <| qM V V V <| qO V <| zF4 V zG0 V V (.inr Vv) <| qN <| zL V (V) <| zQ <| zB <| qR V <| qO V <| zZ1 (y := encV (.mk 0 0 (bothX s1 s2) [] [])) (zO0 V V V ta27 V Vv) (.agg (.cons (.refl _) (.cons (.refl _) (.cons (.refl _) (.cons (.nil 1) (.cons (.nil 5) .nil)))))) <| qO V <| zC0 V V V V sz27 V V (zA V) V <| qA V V V <| qN <| zI ?_
   exact zN1 (.inr V) zC2 V V ta27 V (.refl _) (zV1 _ (.mk 0 0 (bothX s1 s2) [] [])) V (.refl _) (.iface0) ⟨by rw [zH4, hB, cap_f h69]; rfl, rfl⟩
 ·
  obtain ⟨⟨k1, i1⟩, rfl⟩ := one_ins hd.1 (by decide)
  have ih1 := ih (.mk k1 i1) (hd.2 _ (by simp))
  obtain ⟨p1, p2, p3⟩ := isV4 ha
  obtain ⟨q1, q2, q3⟩ := isV4 hb
  have hof := maps_spec 4 k1 i1 [] (bothF (.mk k1 i1)) n1 m1 s1 c1 w1 n2 m2 s2 c2 w2 p2 q2 p1 q1 (fun x hx y hy => ih1 x y (p3 x hx) (q3 y hy))
  have hBq : bothB 4 (bothL [.mk k1 i1]) (.mk n1 m1 s1 c1 w1) (.mk n2 m2 s2 c2 w2) = mapsF (bothF (.mk k1 i1)) (.mk n1 m1 s1 c1 w1) (.mk n2 m2 s2 c2 w2) := rfl
  rcases hO : mapsF (bothF (.mk k1 i1)) (.mk n1 m1 s1 c1 w1) (.mk n2 m2 s2 c2 w2) with _ | ⟨⟨n3, m3, s3, c3, w3⟩⟩ <;> rw [hO] at hof hBq
  ·
   refine zM zE4 V zI4 (zA V) ?_
   refine zB <| qR V <| qB V V V V V <| qB V V V V V <| qB V V V V V <| qO V <| zN0 V zm27 V V <| qA V V V <| qN <| zB <| zB <| qR V <| qF V V V zJ2 <| qL V V V V ta3 V <| qN <| zX <| zB <| zB <| qR V <| qC V V V V V <| qA V V V <| qN ?_
   refine zL V (V) <| qR V <| qC V V V V V <| qA V V V <| qN <| zL V (V) <| zB <| qR V <| qC V V V V V <| qA V V V <| qN <| zL V (V) <| zB <| qR V <| qC V V V V V <| qA V V V <| qN <| zT V (V) <| qR V <| qL V V V V ta53 V <| qL V V V V ta27 V <| qL V V V V ta27 V ?_
   refine qX V V V V co229 (hof _) ?_
   refine qM V V V <| qO V <| zJ0 V V V <| qO V <| zJ0 V V V <| qO V <| zC0 V V V V sz27 V V (zA V) V <| qA V V V <| qN <| zB <| zB <| qR V <| qM V V V <| qO V <| zR3 V zG0 V V (.inl Vv) <| qM V V V <| qS V <| qS V <| qP V V V V <| qN <| zL V (V) <| zQ <| zB <| zB <| qR V ?_
   refine qM V V V <| qO V <| zR3 V zG0 V V (.inr Vv) <| qN <| zT V (V) <| zB <| qR V <| qO V <| zA1 V zU1 zm27 .nil (by kernel_rfl) ?_
   refine qM V V V <| qO V <| zC0 V V V V sz27 V V (zA V) V <| qA V V V <| qN <| zI ?_
   exact zN1 (.inr V) zC2 V V ta27 V (.agg (.cons (.refl _) (.cons (.refl _) (.cons (.nil 1) (.cons (.nil 1) (.cons (.nil 5) .nil)))))) (zV1 _ (noV)) V (.refl _) (.iface _ _ (.int _ _)) ⟨by rw [zH4, hBq]; rfl, rfl⟩
  ·
   refine zM zE4 V zI4 (zA V) ?_
   refine zB <| qR V <| qB V V V V V <| qB V V V V V <| qB V V V V V <| qO V <| zN0 V zm27 V V <| qA V V V <| qN <| zB <| zB <| qR V <| qF V V V zJ2 <| qL V V V V ta3 V <| qN <| zX <| zB <| zB <| qR V <| qC V V V V V <| qA V V V <| qN ?_
   refine zL V (V) <| qR V <| qC V V V V V <| qA V V V <| qN <| zL V (V) <| zB <| qR V <| qC V V V V V <| qA V V V <| qN <| zL V (V) <| zB <| qR V <| qC V V V V V <| qA V V V <| qN <| zT V (V) <| qR V <| qL V V V V ta53 V <| qL V V V V ta27 V <| qL V V V V ta27 V ?_
   refine qX V V V V co229 (hof _) ?_
   refine qM V V V <| qO V <| zJ0 V V V <| qO V <| zJ0 V V V <| qO V <| zC0 V V V V sz27 V V (zA V) V <| qA V V V <| qN <| zB <| zB <| qR V <| qM V V V <| qO V <| zF4 V zG0 V V (.inl Vv) <| qM V V V <| qL V V V V ta27 V ?_
   refine qX V V V V co234 (zL5 n3 m3 s3 c3 w3 _) ?_
   refine qP V V V V <| qN ?_
   refine zJ V (fun h69 => ?_) (fun h69 => ?_)
   ·
    refine qR V <| qO V <| zR1 V V zL1 (by simp) ?_
    refine qA V V V <| qN <| zB <| zB <| qR V <| qM V V V <| qO V <| zR3 V zG0 V V (.inr Vv) <| qN <| zT V (V) <| zB <| qR V <| qO V <| zA1 V zU1 zm27 .nil (by kernel_rfl) ?_
    refine qM V V V <| qO V <| zC0 V V V V sz27 V V (zA V) V <| qA V V V <| qN <| zI ?_
    exact zN1 (.inr V) zC2 V V ta27 V (.agg (.cons (.refl _) (.cons (.refl _) (.cons (.nil 1) (.cons (.nil 1) (.cons (.nil 5) .nil)))))) (zV1 _ (noV)) V (.refl _) (.iface _ _ (.int _ _)) ⟨by rw [zH4, hBq, cap_t h69]; rfl, rfl⟩
   ·
    refine zQ <| zB <| zB <| qR V <| qM V V V <| qO V <| zF4 V zG0 V V (.inr Vv) <| qN <| zL V (V) <| zQ <| zB <| qR V <| qL V V V V ta27 V <| qO V <| zC0 V V V V sz27 V V (zA V) V <| qA V V V <| qN <| zI ?_
    exact zN1 (.inr V) zC2 V V ta27 V (.refl _) (zV1 _ (.mk n3 m3 s3 c3 w3)) V (.refl _) (.iface0) ⟨by rw [zH4, hBq, cap_f h69]; rfl, rfl⟩
 ·
  obtain ⟨⟨k1, i1⟩, ⟨k2, i2⟩, rfl⟩ := two_of hd.1
  have ih1 := ih (.mk k1 i1) (hd.2 _ (by simp))
  have ih2 := ih (.mk k2 i2) (hd.2 _ (by simp))
  obtain ⟨x1, y1, rfl, p1, p2⟩ := isV5 ha
  obtain ⟨x2, y2, rfl, q1, q2⟩ := isV5 hb
  have hof := pairs_specJ 5 [.mk k1 i1, .mk k2 i2] (by simp) bothF n1 m1 s1 c1 [x1, y1] n2 m2 s2 c2 [x2, y2] rfl rfl (fun i s x y hs hx hy => by
   match i, hs, hx, hy with
   | 0, hs, hx, hy => simp at hs hx hy; subst hs hx hy; exact ih1 _ _ p1 q1
   | 1, hs, hx, hy => simp at hs hx hy; subst hs hx hy; exact ih2 _ _ p2 q2
   | i + 2, hs, _, _ => simp at hs)
  have hBq : bothB 5 (bothL [.mk k1 i1, .mk k2 i2]) (.mk n1 m1 s1 c1 [x1, y1]) (.mk n2 m2 s2 c2 [x2, y2]) = pairF2 ([.mk k1 i1, .mk k2 i2].map bothF) (.mk n1 m1 s1 c1 [x1, y1]) (.mk n2 m2 s2 c2 [x2, y2]) := by rw [bothL_eq]; rfl
  rcases hO : pairF2 ([.mk k1 i1, .mk k2 i2].map bothF) (.mk n1 m1 s1 c1 [x1, y1]) (.mk n2 m2 s2 c2 [x2, y2]) with _ | ⟨⟨n3, m3, s3, c3, w3⟩⟩ <;> rw [hO] at hof hBq
  ·
   refine zM zE4 V zI4 (zA V) ?_
   refine zB <| qR V <| qB V V V V V <| qB V V V V V <| qB V V V V V <| qO V <| zN0 V zm27 V V <| qA V V V <| qN <| zB <| zB <| qR V <| qF V V V zJ2 <| qL V V V V ta3 V <| qN <| zX <| zB <| zB <| qR V <| qC V V V V V <| qA V V V <| qN ?_
   refine zL V (V) <| qR V <| qC V V V V V <| qA V V V <| qN <| zL V (V) <| zB <| qR V <| qC V V V V V <| qA V V V <| qN <| zL V (V) <| zB <| qR V <| qC V V V V V <| qA V V V <| qN <| zL V (V) <| zB <| qR V <| qC V V V V V <| qA V V V ?_
   refine qN <| zT V (V) <| qR V <| qL V V V V ta53 V <| qL V V V V ta27 V <| qL V V V V ta27 V ?_
   refine qX V V V V co230 (hof _) ?_
   refine qM V V V <| qO V <| zJ0 V V V <| qO V <| zJ0 V V V <| qO V <| zC0 V V V V sz27 V V (zA V) V <| qA V V V <| qN <| zB <| zB <| qR V <| qM V V V <| qO V <| zR3 V zG0 V V (.inl Vv) <| qM V V V <| qS V <| qS V <| qP V V V V <| qN <| zL V (V) <| zQ <| zB <| zB <| qR V ?_
   refine qM V V V <| qO V <| zR3 V zG0 V V (.inr Vv) <| qN <| zT V (V) <| zB <| qR V <| qO V <| zA1 V zU1 zm27 .nil (by kernel_rfl) ?_
   refine qM V V V <| qO V <| zC0 V V V V sz27 V V (zA V) V <| qA V V V <| qN <| zI ?_
   exact zN1 (.inr V) zC2 V V ta27 V (.agg (.cons (.refl _) (.cons (.refl _) (.cons (.nil 1) (.cons (.nil 1) (.cons (.nil 5) .nil)))))) (zV1 _ (noV)) V (.refl _) (.iface _ _ (.int _ _)) ⟨by rw [zH4, hBq]; rfl, rfl⟩
  ·
   refine zM zE4 V zI4 (zA V) ?_
   refine zB <| qR V <| qB V V V V V <| qB V V V V V <| qB V V V V V <| qO V <| zN0 V zm27 V V <| qA V V V <| qN <| zB <| zB <| qR V <| qF V V V zJ2 <| qL V V V V ta3 V <| qN <| zX <| zB <| zB <| qR V <| qC V V V V V <| qA V V V <| qN ?_
   refine zL V (V) <| qR V <| qC V V V V V <| qA V V V <| qN <| zL V (V) <| zB <| qR V <| qC V V V V V <| qA V V V <| qN <| zL V (V) <| zB <| qR V <| qC V V V V V <| qA V V V <| qN <| zL V (V) <| zB <| qR V <| qC V V V V V <| qA V V V ?_
   refine qN <| zT V (V) <| qR V <| qL V V V V ta53 V <| qL V V V V ta27 V <| qL V V V V ta27 V ?_
   refine qX V V V V co230 (hof _) ?_
   refine qM V V V <| qO V <| zJ0 V V V <| qO V <| zJ0 V V V <| qO V <| zC0 V V V V sz27 V V (zA V) V <| qA V V V <| qN <| zB <| zB <| qR V <| qM V V V <| qO V <| zF4 V zG0 V V (.inl Vv) <| qM V V V <| qL V V V V ta27 V ?_
   refine qX V V V V co234 (zL5 n3 m3 s3 c3 w3 _) ?_
   refine qP V V V V <| qN ?_
   refine zJ V (fun h69 => ?_) (fun h69 => ?_)
   ·
    refine qR V <| qO V <| zR1 V V zL1 (by simp) ?_
    refine qA V V V <| qN <| zB <| zB <| qR V <| qM V V V <| qO V <| zR3 V zG0 V V (.inr Vv) <| qN <| zT V (V) <| zB <| qR V <| qO V <| zA1 V zU1 zm27 .nil (by kernel_rfl) ?_
    refine qM V V V <| qO V <| zC0 V V V V sz27 V V (zA V) V <| qA V V V <| qN <| zI ?_
    exact zN1 (.inr V) zC2 V V ta27 V (.agg (.cons (.refl _) (.cons (.refl _) (.cons (.nil 1) (.cons (.nil 1) (.cons (.nil 5) .nil)))))) (zV1 _ (noV)) V (.refl _) (.iface _ _ (.int _ _)) ⟨by rw [zH4, hBq, cap_t h69]; rfl, rfl⟩
   ·
    refine zQ <| zB <| zB <| qR V <| qM V V V <| qO V <| zF4 V zG0 V V (.inr Vv) <| qN <| zL V (V) <| zQ <| zB <| qR V <| qL V V V V ta27 V <| qO V <| zC0 V V V V sz27 V V (zA V) V <| qA V V V <| qN <| zI ?_
    exact zN1 (.inr V) zC2 V V ta27 V (.refl _) (zV1 _ (.mk n3 m3 s3 c3 w3)) V (.refl _) (.iface0) ⟨by rw [zH4, hBq, cap_f h69]; rfl, rfl⟩
 ·
  obtain ⟨n3, m3, s3, c3, w3, hlt⟩ : ∃ n m s c w, laterF (.mk n1 m1 s1 c1 w1) (.mk n2 m2 s2 c2 w2) = .mk n m s c w := by cases laterF (.mk n1 m1 s1 c1 w1) (.mk n2 m2 s2 c2 w2) with
   | mk n m s c w => exact ⟨n, m, s, c, w, rfl⟩
  have hlt2 := later_spec n1 m1 s1 c1 w1 n2 m2 s2 c2 w2
  rw [hlt] at hlt2
  have hB : bothB 6 (bothL ins) (.mk n1 m1 s1 c1 w1) (.mk n2 m2 s2 c2 w2) = some (.mk n3 m3 s3 c3 w3) := congrArg some hlt
  refine zM zE4 V zI4 (zA V) ?_
  refine zB <| qR V <| qB V V V V V <| qB V V V V V <| qB V V V V V <| qO V <| zN0 V zm27 V V <| qA V V V <| qN <| zB <| zB <| qR V <| qF V V V zJ2 <| qL V V V V ta3 V <| qN <| zX <| zB <| zB <| qR V <| qC V V V V V <| qA V V V <| qN ?_
  refine zL V (V) <| qR V <| qC V V V V V <| qA V V V <| qN <| zL V (V) <| zB <| qR V <| qC V V V V V <| qA V V V <| qN <| zL V (V) <| zB <| qR V <| qC V V V V V <| qA V V V <| qN <| zL V (V) <| zB <| qR V <| qC V V V V V <| qA V V V ?_
  refine qN <| zL V (V) <| zB <| qR V <| qC V V V V V <| qA V V V <| qN <| zT V (V) <| qR V <| qL V V V V ta27 V <| qL V V V V ta27 V ?_
  refine qX V V V V co231 (hlt2 _) ?_
  refine qO V <| zC0 V V V V sz27 V V (zA V) V <| qN <| zB <| zB <| qR V <| qM V V V <| qO V <| zF4 V zG0 V V (.inl Vv) <| qM V V V <| qL V V V V ta27 V ?_
  refine qX V V V V co234 (zL5 n3 m3 s3 c3 w3 _) ?_
  refine qP V V V V <| qN ?_
  refine zJ V (fun h69 => ?_) (fun h69 => ?_)
  ·
   refine qR V <| qO V <| zR1 V V zL1 (by simp) ?_
   refine qA V V V <| qN <| zB <| zB <| qR V <| qM V V V <| qO V <| zR3 V zG0 V V (.inr Vv) <| qN <| zT V (V) <| zB <| qR V <| qO V <| zA1 V zU1 zm27 .nil (by kernel_rfl) ?_
   refine qM V V V <| qO V <| zC0 V V V V sz27 V V (zA V) V <| qA V V V <| qN <| zI ?_
   exact zN1 (.inr V) zC2 V V ta27 V (.agg (.cons (.refl _) (.cons (.refl _) (.cons (.nil 1) (.cons (.nil 1) (.cons (.nil 5) .nil)))))) (zV1 _ (noV)) V (.refl _) (.iface _ _ (.int _ _)) ⟨by rw [zH4, hB, cap_t h69]; rfl, rfl⟩
  ·
   refine zQ <| zB <| zB <| qR V <| qM V V V <| qO V <| zF4 V zG0 V V (.inr Vv) <| qN <| zL V (V) <| zQ <| zB <| qR V <| qL V V V V ta27 V <| qO V <| zC0 V V V V sz27 V V (zA V) V <| qA V V V <| qN <| zI ?_
   exact zN1 (.inr V) zC2 V V ta27 V (.refl _) (zV1 _ (.mk n3 m3 s3 c3 w3)) V (.refl _) (.iface0) ⟨by rw [zH4, hB, cap_f h69]; rfl, rfl⟩
 ·
  have b1 := isV7 ha
  have b2 := isV7 hb
  obtain ⟨n3, m3, s3, c3, w3, hlt⟩ : ∃ n m s c w, clocksF (.mk n1 m1 s1 c1 w1) (.mk n2 m2 s2 c2 w2) = .mk n m s c w := by cases clocksF (.mk n1 m1 s1 c1 w1) (.mk n2 m2 s2 c2 w2) with
   | mk n m s c w => exact ⟨n, m, s, c, w, rfl⟩
  have hlt2 := clocks_spec n1 m1 s1 c1 w1 n2 m2 s2 c2 w2 (fun x hx y hy => by have := b1 x hx; have := b2 y hy; omega)
  rw [hlt] at hlt2
  have hB : bothB 7 (bothL ins) (.mk n1 m1 s1 c1 w1) (.mk n2 m2 s2 c2 w2) = some (.mk n3 m3 s3 c3 w3) := congrArg some hlt
  refine zM zE4 V zI4 (zA V) ?_
  refine zB <| qR V <| qB V V V V V <| qB V V V V V <| qB V V V V V <| qO V <| zN0 V zm27 V V <| qA V V V <| qN <| zB <| zB <| qR V <| qF V V V zJ2 <| qL V V V V ta3 V <| qN <| zX <| zB <| zB <| qR V <| qC V V V V V <| qA V V V <| qN ?_
  refine zL V (V) <| qR V <| qC V V V V V <| qA V V V <| qN <| zL V (V) <| zB <| qR V <| qC V V V V V <| qA V V V <| qN <| zL V (V) <| zB <| qR V <| qC V V V V V <| qA V V V <| qN <| zL V (V) <| zB <| qR V <| qC V V V V V <| qA V V V ?_
  refine qN <| zL V (V) <| zB <| qR V <| qC V V V V V <| qA V V V <| qN <| zL V (V) <| zB <| qR V <| qC V V V V V <| qA V V V <| qN <| zT V (V) <| qR V <| qL V V V V ta27 V <| qL V V V V ta27 V ?_
  refine qX V V V V co232 (hlt2 _) ?_
  refine qO V <| zC0 V V V V sz27 V V (zA V) V <| qN <| zB <| zB <| qR V <| qM V V V <| qO V <| zF4 V zG0 V V (.inl Vv) <| qM V V V <| qL V V V V ta27 V ?_
  refine qX V V V V co234 (zL5 n3 m3 s3 c3 w3 _) ?_
  refine qP V V V V <| qN ?_
  refine zJ V (fun h69 => ?_) (fun h69 => ?_)
  ·
   refine qR V <| qO V <| zR1 V V zL1 (by simp) ?_
   refine qA V V V <| qN <| zB <| zB <| qR V <| qM V V V <| qO V <| zR3 V zG0 V V (.inr Vv) <| qN <| zT V (V) <| zB <| qR V <| qO V <| zA1 V zU1 zm27 .nil (by kernel_rfl) ?_
   refine qM V V V <| qO V <| zC0 V V V V sz27 V V (zA V) V <| qA V V V <| qN <| zI ?_
   exact zN1 (.inr V) zC2 V V ta27 V (.agg (.cons (.refl _) (.cons (.refl _) (.cons (.nil 1) (.cons (.nil 1) (.cons (.nil 5) .nil)))))) (zV1 _ (noV)) V (.refl _) (.iface _ _ (.int _ _)) ⟨by rw [zH4, hB, cap_t h69]; rfl, rfl⟩
  ·
   refine zQ <| zB <| zB <| qR V <| qM V V V <| qO V <| zF4 V zG0 V V (.inr Vv) <| qN <| zL V (V) <| zQ <| zB <| qR V <| qL V V V V ta27 V <| qO V <| zC0 V V V V sz27 V V (zA V) V <| qA V V V <| qN <| zI ?_
   exact zN1 (.inr V) zC2 V V ta27 V (.refl _) (zV1 _ (.mk n3 m3 s3 c3 w3)) V (.refl _) (.iface0) ⟨by rw [zH4, hB, cap_f h69]; rfl, rfl⟩
 ·
  obtain ⟨⟨k1, i1⟩, rfl⟩ := one_ins hd.1 (by decide)
  have ih1 := ih (.mk k1 i1) (hd.2 _ (by simp))
  obtain ⟨p1, p2, p4, p3⟩ := isV8 ha
  obtain ⟨q1, q2, q4, q3⟩ := isV8 hb
  have hof := causes_spec 8 k1 i1 [] (bothF (.mk k1 i1)) n1 m1 s1 c1 w1 n2 m2 s2 c2 w2 p2 q2 p1 q1 (fun x hx => by have := p4 x hx; omega) (fun x hx => by have := q4 x hx; omega) (fun x hx y hy => ih1 x y (p3 x hx) (q3 y hy))
  have hBq : bothB 8 (bothL [.mk k1 i1]) (.mk n1 m1 s1 c1 w1) (.mk n2 m2 s2 c2 w2) = causesF (bothF (.mk k1 i1)) (.mk n1 m1 s1 c1 w1) (.mk n2 m2 s2 c2 w2) := rfl
  rcases hO : causesF (bothF (.mk k1 i1)) (.mk n1 m1 s1 c1 w1) (.mk n2 m2 s2 c2 w2) with _ | ⟨⟨n3, m3, s3, c3, w3⟩⟩ <;> rw [hO] at hof hBq
  ·
   refine zM zE4 V zI4 (zA V) ?_
   refine zB <| qR V <| qB V V V V V <| qB V V V V V <| qB V V V V V <| qO V <| zN0 V zm27 V V <| qA V V V <| qN <| zB <| zB <| qR V <| qF V V V zJ2 <| qL V V V V ta3 V <| qN <| zX <| zB <| zB <| qR V <| qC V V V V V <| qA V V V <| qN ?_
   refine zL V (V) <| qR V <| qC V V V V V <| qA V V V <| qN <| zL V (V) <| zB <| qR V <| qC V V V V V <| qA V V V <| qN <| zL V (V) <| zB <| qR V <| qC V V V V V <| qA V V V <| qN <| zL V (V) <| zB <| qR V <| qC V V V V V <| qA V V V ?_
   refine qN <| zL V (V) <| zB <| qR V <| qC V V V V V <| qA V V V <| qN <| zL V (V) <| zB <| qR V <| qC V V V V V <| qA V V V <| qN <| zL V (V) <| zB <| qR V <| qC V V V V V <| qA V V V <| qN <| zT V (V) <| qR V <| qL V V V V ta53 V <| qL V V V V ta27 V ?_
   refine qL V V V V ta27 V ?_
   refine qX V V V V co233 (hof _) ?_
   refine qM V V V <| qO V <| zJ0 V V V <| qO V <| zJ0 V V V <| qO V <| zC0 V V V V sz27 V V (zA V) V <| qA V V V <| qN <| zB <| zB <| qR V <| qM V V V <| qO V <| zR3 V zG0 V V (.inl Vv) <| qM V V V <| qS V <| qS V <| qP V V V V <| qN <| zL V (V) <| zQ <| zB <| zB <| qR V ?_
   refine qM V V V <| qO V <| zR3 V zG0 V V (.inr Vv) <| qN <| zT V (V) <| zB <| qR V <| qO V <| zA1 V zU1 zm27 .nil (by kernel_rfl) ?_
   refine qM V V V <| qO V <| zC0 V V V V sz27 V V (zA V) V <| qA V V V <| qN <| zI ?_
   exact zN1 (.inr V) zC2 V V ta27 V (.agg (.cons (.refl _) (.cons (.refl _) (.cons (.nil 1) (.cons (.nil 1) (.cons (.nil 5) .nil)))))) (zV1 _ (noV)) V (.refl _) (.iface _ _ (.int _ _)) ⟨by rw [zH4, hBq]; rfl, rfl⟩
  ·
   refine zM zE4 V zI4 (zA V) ?_
   refine zB <| qR V <| qB V V V V V <| qB V V V V V <| qB V V V V V <| qO V <| zN0 V zm27 V V <| qA V V V <| qN <| zB <| zB <| qR V <| qF V V V zJ2 <| qL V V V V ta3 V <| qN <| zX <| zB <| zB <| qR V <| qC V V V V V <| qA V V V <| qN ?_
   refine zL V (V) <| qR V <| qC V V V V V <| qA V V V <| qN <| zL V (V) <| zB <| qR V <| qC V V V V V <| qA V V V <| qN <| zL V (V) <| zB <| qR V <| qC V V V V V <| qA V V V <| qN <| zL V (V) <| zB <| qR V <| qC V V V V V <| qA V V V ?_
   refine qN <| zL V (V) <| zB <| qR V <| qC V V V V V <| qA V V V <| qN <| zL V (V) <| zB <| qR V <| qC V V V V V <| qA V V V <| qN <| zL V (V) <| zB <| qR V <| qC V V V V V <| qA V V V <| qN <| zT V (V) <| qR V <| qL V V V V ta53 V <| qL V V V V ta27 V ?_
   refine qL V V V V ta27 V ?_
   refine qX V V V V co233 (hof _) ?_
   refine qM V V V <| qO V <| zJ0 V V V <| qO V <| zJ0 V V V <| qO V <| zC0 V V V V sz27 V V (zA V) V <| qA V V V <| qN <| zB <| zB <| qR V <| qM V V V <| qO V <| zF4 V zG0 V V (.inl Vv) <| qM V V V <| qL V V V V ta27 V ?_
   refine qX V V V V co234 (zL5 n3 m3 s3 c3 w3 _) ?_
   refine qP V V V V <| qN ?_
   refine zJ V (fun h69 => ?_) (fun h69 => ?_)
   ·
    refine qR V <| qO V <| zR1 V V zL1 (by simp) ?_
    refine qA V V V <| qN <| zB <| zB <| qR V <| qM V V V <| qO V <| zR3 V zG0 V V (.inr Vv) <| qN <| zT V (V) <| zB <| qR V <| qO V <| zA1 V zU1 zm27 .nil (by kernel_rfl) ?_
    refine qM V V V <| qO V <| zC0 V V V V sz27 V V (zA V) V <| qA V V V <| qN <| zI ?_
    exact zN1 (.inr V) zC2 V V ta27 V (.agg (.cons (.refl _) (.cons (.refl _) (.cons (.nil 1) (.cons (.nil 1) (.cons (.nil 5) .nil)))))) (zV1 _ (noV)) V (.refl _) (.iface _ _ (.int _ _)) ⟨by rw [zH4, hBq, cap_t h69]; rfl, rfl⟩
   ·
    refine zQ <| zB <| zB <| qR V <| qM V V V <| qO V <| zF4 V zG0 V V (.inr Vv) <| qN <| zL V (V) <| zQ <| zB <| qR V <| qL V V V V ta27 V <| qO V <| zC0 V V V V sz27 V V (zA V) V <| qA V V V <| qN <| zI ?_
    exact zN1 (.inr V) zC2 V V ta27 V (.refl _) (zV1 _ (.mk n3 m3 s3 c3 w3)) V (.refl _) (.iface0) ⟨by rw [zH4, hBq, cap_f h69]; rfl, rfl⟩
theorem join_err {s : Sch} {a b : Val} (h : ¬ ((isF 16 s && isVF s a) = true ∧ (isF 16 s && isVF s b) = true)) : joinVF s a b = .error 14 := by unfold joinVF; rw [if_neg h]
theorem join_both {s : Sch} {a b : Val} (ha : (isF 16 s && isVF s a) = true) (hb : (isF 16 s && isVF s b) = true) : encJ (joinVF s a b) = encO (bothF s a b) := by
 unfold joinVF
 rw [if_pos ⟨ha, hb⟩]
 cases bothF s a b <;> rfl
theorem okV_no : okV noV := by simp [okV, okVs, noV]
theorem join_spec (s : Sch) (a b : Val) (ha : okV a) (hb : okV b) (S : MS) : MCalls Tryz.prog 145 [encS s, encV a, encV b] S fun v σ' => v = encJ (joinVF s a b) ∧ σ' = S := by
 obtain ⟨k, ins⟩ := s
 obtain ⟨n1, m1, s1, c1, w1⟩ := a
 obtain ⟨n2, m2, s2, c2, w2⟩ := b
 refine zM Tryz.func145 V Tryz.ntmps145 (zA V) ?_
 refine zB <| qR V <| qB V V V V V <| qB V V V V V <| qB V V V V V <| qO V <| zN0 V zm27 V V <| qA V V V <| qN <| zB <| zB <| qR V <| qL V V V V ta53 V <| qL V V V V ta27 V ?_
 refine qX V V V V co116 (valIs_spec (.mk k ins) (.mk n1 m1 s1 c1 w1) ha _) ?_
 refine qO V <| zC1 V V <| qM V V V ?_
 refine zZ (fun h12 => ?_) (fun h12 => ?_)
 ·
  refine qT V V V V <| qP V V V V <| qN <| zT V (V) <| zB <| qR V <| qO V <| zA1 V zU1 zm27 .nil (by kernel_rfl) ?_
  refine qO V <| zR1 V V zL1 (by simp) ?_
  refine qO V <| zC0 V V V V sz27 V V (zA V) V <| qA V V V <| qN <| zI ?_
  exact zN1 (.inr V) Tryz.results145 V V ta27 V (.agg (.cons (.refl _) (.cons (.refl _) (.cons (.nil 1) (.cons (.nil 1) (.cons (.nil 5) .nil)))))) (zV1 _ (noV)) V (.refl _) (.iface _ _ (.int _ _)) ⟨by rw [join_err (fun hq => by first | (rw [hq.1] at h12; exact absurd h12 (by decide)) | (rw [hq.2] at h17; exact absurd h17 (by decide)))]; rfl, rfl⟩
 ·
  refine qL V V V V ta53 V <| qL V V V V ta27 V ?_
  refine qX V V V V co116 (valIs_spec (.mk k ins) (.mk n2 m2 s2 c2 w2) hb _) ?_
  refine qO V <| zC1 V V <| qP V V V V <| qN ?_
  refine zJ V (fun h17 => ?_) (fun h17 => ?_)
  ·
   refine zB <| qR V <| qO V <| zA1 V zU1 zm27 .nil (by kernel_rfl) ?_
   refine qO V <| zR1 V V zL1 (by simp) ?_
   refine qO V <| zC0 V V V V sz27 V V (zA V) V <| qA V V V <| qN <| zI ?_
   exact zN1 (.inr V) Tryz.results145 V V ta27 V (.agg (.cons (.refl _) (.cons (.refl _) (.cons (.nil 1) (.cons (.nil 1) (.cons (.nil 5) .nil)))))) (zV1 _ (noV)) V (.refl _) (.iface _ _ (.int _ _)) ⟨by rw [join_err (fun hq => by first | (rw [hq.1] at h12; exact absurd h12 (by decide)) | (rw [hq.2] at h17; exact absurd h17 (by decide)))]; rfl, rfl⟩
  ·
   refine zQ <| zB ?_
   have ha2 : (isF 16 (.mk k ins) && isVF (.mk k ins) (.mk n1 m1 s1 c1 w1)) = true := by simpa using h12
   have hb2 : (isF 16 (.mk k ins) && isVF (.mk k ins) (.mk n2 m2 s2 c2 w2)) = true := by simpa using h17
   have hof := both_spec 16 (.mk k ins) (by rw [Bool.and_eq_true] at ha2; exact ha2.1) (.mk n1 m1 s1 c1 w1) (.mk n2 m2 s2 c2 w2) (by rw [Bool.and_eq_true] at ha2; exact ha2.2) (by rw [Bool.and_eq_true] at hb2; exact hb2.2)
   obtain ⟨n3, m3, s3, c3, w3, h3⟩ := encO_of (bothF (.mk k ins) (.mk n1 m1 s1 c1 w1) (.mk n2 m2 s2 c2 w2))
   have hO : encO (bothF (.mk k ins) (.mk n1 m1 s1 c1 w1) (.mk n2 m2 s2 c2 w2)) = .tup [encV (.mk n3 m3 s3 c3 w3), errO (bothF (.mk k ins) (.mk n1 m1 s1 c1 w1) (.mk n2 m2 s2 c2 w2))] := by rw [encO, h3]
   rw [hO] at hof
   refine qR V <| qL V V V V ta53 V <| qL V V V V ta27 V <| qL V V V V ta27 V ?_
   refine qX V V V V co188 (hof _) ?_
   refine qO V <| zJ0 V V V <| qO V <| zJ0 V V V <| qO V <| zC0 V V V V sz27 V V (zA V) V <| qA V V V <| qN <| zI ?_
   exact zN1 (.inr V) Tryz.results145 V V ta27 V (.refl _) (zV1 _ (.mk n3 m3 s3 c3 w3)) V (.refl _) ((cl_errO _ _)) ⟨by rw [join_both ha2 hb2, hO]; rfl, rfl⟩
end Go.Proofs.YtciimaabeabkdaaGreatDoor
namespace Go.Proofs.YtciimaabeabkdaaGreatDoor
open Go Go.MV Go.RowKit Go.Extern.Stop Go.Extern
theorem tT (v : Value) (w : World) : (Extern.ReflectliteType.typeOf #[.iface 49 v]).run Tryz.prog w = .ok (.iface 208 (.agg #[.pointer (some ⟨Tryz.prog.globals.size, 49, none⟩)])) w := by kernel_rfl
theorem cT (w : World) : ((Extern.ReflectliteType.method fun t => do Extern.Rtype.noPackHeld "Comparable" t; pure (.bool (← typeInfo t).comparable)) #[.agg #[.pointer (some ⟨Tryz.prog.globals.size, 49, none⟩)]]).run Tryz.prog w = .ok (.bool true) w := by kernel_rfl
theorem mR (v : Value) (w : World) : (Go.method 490 208 v "Comparable").run Tryz.prog w = .ok (332, v) w := by kernel_rfl
theorem errComp : (Tryz.prog.info? 49).map (·.comparable) = some true := by kernel_rfl
theorem eqErr (n : Int) (w : World) : (binOp .eql 43 (.iface 49 (.int .i64 n)) (.iface 49 (.int .i64 n))).run Tryz.prog w = .ok (.bool true) w := by
 obtain ⟨i, hi, hcmp⟩ := Option.map_eq_some_iff.1 errComp
 have h : ∀ d : Nat, (Op.equalIn (d + 2) 43 (.iface 49 (.int .i64 n)) (.iface 49 (.int .i64 n))).run Tryz.prog w = .ok true w := fun d => by
  simp [Op.equalIn, run_underlying zG0, run_underlying zL1, typeInfo, hi, hcmp]
 simp only [binOp]
 simp [Op.equal, Op.maxDepth, h 9998]
theorem nilErr (v : Value) (w : World) : (binOp .eql 43 (.iface 49 v) .nilIface).run Tryz.prog w = .ok (.bool false) w := by
 have h : ∀ d : Nat, (Op.equalIn (d + 1) 43 (.iface 49 v) .nilIface).run Tryz.prog w = .ok false w := fun d => by simp [Op.equalIn, run_underlying zG0]
 simp only [binOp]
 simp [Op.equal, Op.maxDepth, h 9999]
theorem isSame (n : Int) (w : World) : Calls Tryz.prog 18 #[.iface 49 (.int .i64 n), .iface 49 (.int .i64 n)] w fun e w' => e = .returned (.bool true) ∧ w' = w := by
 have h8 := @run_callFunc_extern Tryz.prog 73 _ Extern.ReflectliteType.typeOf Tryz.func73 (by kernel_rfl) (by kernel_rfl) (by kernel_rfl) (by kernel_rfl)
 have h32 := @run_callFunc_extern Tryz.prog 332 _ (Extern.ReflectliteType.method fun t => do Extern.Rtype.noPackHeld "Comparable" t; pure (.bool (← typeInfo t).comparable)) Tryz.func332 (by kernel_rfl) (by kernel_rfl) (by kernel_rfl) (by kernel_rfl)
 obtain ⟨H, hT, hC⟩ : ∃ H : Value, (∀ (v : Value) (w : World), (callFunc 73 #[.iface 49 v]).run Tryz.prog w = .ok (.value (.iface 208 H)) w) ∧ (∀ w : World, (callFunc 332 #[H]).run Tryz.prog w = .ok (.value (.bool true)) w) := ⟨_, fun v w => by rw [h8, tT]; rfl, fun w => by rw [h32, cT]; rfl⟩
 clear h8 h32
 have mR := mR
 have heq := eqErr n w
 have hnil := nilErr (.int .i64 n) w
 go_enter Tryz.func18, Tryz.ntmps18
 go_wp2
 refine wp_loop_rounds 1 ?_
 rw [rounds_succ]
 go_wp2
 go_ret
 exact ⟨rfl, rfl⟩
theorem errIs_spec (n : Int) (S : MS) : MCalls Tryz.prog 18 [.iface 49 (.int .i64 n), .iface 49 (.int .i64 n)] S fun v σ' => v = .bool true ∧ σ' = S := by
 intro g w vs hrel hrd
 obtain ⟨u, us, rfl, h1, h2⟩ := hrd.uncons
 obtain ⟨u2, us2, rfl, h3, h4⟩ := h2.uncons
 obtain ⟨a, rfl, ha⟩ := h1.inv_iface
 obtain ⟨b, rfl, hb⟩ := h3.inv_iface
 have e1 := ha.inv_int
 have e2 := hb.inv_int
 have e3 : us2 = [] := List.eq_nil_of_length_eq_zero h4.1
 subst e1 e2 e3
 refine (callsIn_wide.2 (isSame n w)).mono ?_
 rintro e w' ⟨rfl, rfl⟩
 exact ⟨_, rfl, .bool true, S, g, ⟨rfl, rfl⟩, hrel, .bool _, .refl _ _⟩
end Go.Proofs.YtciimaabeabkdaaGreatDoor
namespace Go.MV
open Go Go.RowKit
section
section
variable {P : Program} {rd : Option Nat} {o : Oper} {env : Env} {σ : MS} {K : MV → MS → Prop}
theorem op_ifint {b : BinOp} {r : Bool} {t e t' : TypeId} {x y : Operand} {k k' : IntKind} {m n : Int} {ms : Array (String × TypeId)} (ho : o.op = .binOp b t x y t') (hu : P.underlying t = some (.interface ms)) (hc : (P.info? e).map (·.comparable) = some true) (he : P.underlying e = some (.int k'))
  (hx : evo env x = some (.iface e (.int k m))) (hy : evo env y = some (.iface e (.int k n))) (hb : b = .eql ∧ r = (m == n) ∨ b = .neq ∧ r = !(m == n)) (h : K (.bool r) σ) : OpWp P rd o env σ K := by
 refine OpWp.of_run (by rcases hb with ⟨rfl, _⟩ | ⟨rfl, _⟩ <;> simp [ho]) fun g w a hr hop => ?_
 obtain ⟨u, e1, h1⟩ := (hop x (by simp [ho, Op.operands]) _ hx).inv_iface
 obtain ⟨u2, e2, h2⟩ := (hop y (by simp [ho, Op.operands]) _ hy).inv_iface
 have h1 := h1.inv_int
 have h2 := h2.inv_int
 subst h1 h2
 refine ⟨.bool r, w, ?_, .same h hr (.bool _)⟩
 obtain ⟨i, hi, hcmp⟩ := Option.map_eq_some_iff.1 hc
 have h9 : ∀ d : Nat, (Op.equalIn (d + 2) t (.iface e (.int k m)) (.iface e (.int k n))).run P w = .ok (m == n) w := fun d => by
  simp [Op.equalIn, run_underlying hu, run_underlying he, typeInfo, hi, hcmp]
 rcases hb with ⟨rfl, rfl⟩ | ⟨rfl, rfl⟩ <;> (simp only [execOp, ho, e1, e2, Sem.run_bind, Sem.run_pure]; simp [eqGuard, binOp, Op.equal, Op.maxDepth, h9 9998])
theorem op_nilif {b : BinOp} {r : Bool} {t e t' : TypeId} {x y : Operand} {m : MV} {ms : Array (String × TypeId)} (ho : o.op = .binOp b t x y t') (hu : P.underlying t = some (.interface ms)) (hx : evo env x = some .iface0) (hy : evo env y = some (.iface e m)) (hb : b = .eql ∧ r = false ∨ b = .neq ∧ r = true) (h : K (.bool r) σ) : OpWp P rd o env σ K := by
 refine OpWp.of_run (by rcases hb with ⟨rfl, rfl⟩ | Vv <;> simp [ho]) fun g w a hr hop => ?_
 obtain ⟨u, e1, _⟩ := (hop y (by simp [ho, Op.operands]) _ hy).inv_iface
 have e2 := (hop x (by simp [ho, Op.operands]) _ hx).inv_iface0
 refine ⟨.bool r, w, ?_, .same h hr (.bool _)⟩
 have h9 : ∀ d : Nat, (Op.equalIn (d + 1) t .nilIface (.iface e u)).run P w = .ok false w := fun d => by simp [Op.equalIn, run_underlying hu]
 rcases hb with ⟨rfl, rfl⟩ | ⟨rfl, rfl⟩ <;> (simp only [execOp, ho, e1, e2, Sem.run_bind, Sem.run_pure]; simp [eqGuard, binOp, Op.equal, Op.maxDepth, h9 9999])
end
end
end Go.MV
namespace Go.Proofs.YtciimaabeabkdaaGreatDoor
open Go Go.MV
theorem joinE {s : Sch} {a b : Val} {e : Int} (h : joinVF s a b = .error e) : e = 13 ∨ e = 14 := by
 unfold joinVF at h
 split at h
 ·split at h
  ·cases h
  ·injection h with h; exact .inl h.symm
 ·injection h with h; exact .inr h.symm
theorem joinR (s : Sch) (a b : Val) : (∃ n m t c w, joinVF s a b = .ok (.mk n m t c w)) ∨ joinVF s a b = .error 13 ∨ joinVF s a b = .error 14 := by
 cases h : joinVF s a b with
 | ok v => obtain ⟨n, m, t, c, w⟩ := v; exact .inl ⟨_, _, _, _, _, rfl⟩
 | error e =>
  rcases joinE h with rfl | rfl
  ·exact .inr (.inl rfl)
  ·exact .inr (.inr rfl)
noncomputable def leqVF (s : Sch) (a b : Val) : Except Int Bool := match joinVF s a b with | .ok j => .ok (decide (j = b)) | .error e => if e = 14 then .error 14 else .ok false
def encL (r : Except Int Bool) : MV := .tup [.bool (match r with | .error _ => false | .ok v => v), match r with | .error n => encErr n | .ok _ => .iface0]
theorem leq_ok {s : Sch} {a b j : Val} (h : joinVF s a b = .ok j) : leqVF s a b = .ok (decide (j = b)) := by unfold leqVF; rw [h]
theorem leq_13 {s : Sch} {a b : Val} (h : joinVF s a b = .error 13) : leqVF s a b = .ok false := by unfold leqVF; rw [h]; rfl
theorem leq_14 {s : Sch} {a b : Val} (h : joinVF s a b = .error 14) : leqVF s a b = .error 14 := by unfold leqVF; rw [h]; rfl
theorem okCmp : (Tryz.prog.info? 49).map (·.comparable) = some true := by kernel_rfl
theorem leq_spec (s : Sch) (a b : Val) (ha : okV a) (hb : okV b) (S : MS) : MCalls Tryz.prog 146 [encS s, encV a, encV b] S fun v σ' => v = encL (leqVF s a b) ∧ σ' = S := by
 obtain ⟨k, ins⟩ := s
 obtain ⟨n1, m1, s1, c1, w1⟩ := a
 obtain ⟨n2, m2, s2, c2, w2⟩ := b
 refine zM Tryz.func146 V Tryz.ntmps146 (zA V) ?_
 refine zB <| qR V <| qB V V V V V <| qB V V V V V <| qB V V V V V <| qA V V V <| qA V V V <| qN <| zB ?_
 have hof := join_spec (.mk k ins) (.mk n1 m1 s1 c1 w1) (.mk n2 m2 s2 c2 w2) ha hb
 rcases joinR (.mk k ins) (.mk n1 m1 s1 c1 w1) (.mk n2 m2 s2 c2 w2) with ⟨n3, m3, s3, c3, w3, hj⟩ | hj | hj <;> rw [hj] at hof
 ·
  refine qR V <| qL V V V V ta53 V <| qL V V V V ta27 V <| qL V V V V ta27 V ?_
  refine qX V V V V co145 (hof _) ?_
  refine qM V V V <| qO V <| zJ0 V V V <| qO V <| zJ0 V V V <| qO V <| zN0 V zm27 V V <| qO V <| zC0 V V V V sz27 V V (zA V) V <| qA V V V <| qN <| zB <| zB <| qR V <| qM V V V <| qN <| zX <| zB <| qR V <| qO V <| zR1 V V zL1 (by simp) ?_
  refine qO V <| op_nilif V zG0 V V (.inl Vv) <| qA V V V <| qN <| zL V (V) <| zB <| qR V <| qO V <| zF4 V zG0 V V (.inl Vv) <| qA V V V <| qN <| zT V (V) <| zB <| qR V <| qL V V V V ta27 V <| qL V V V V ta27 V ?_
  refine qX V V V V co68 (valSame_spec (.mk n3 m3 s3 c3 w3) (.mk n2 m2 s2 c2 w2) _) ?_
  refine qA V V V <| qA V V V <| qN <| zI ?_
  exact ret_tmp2 (.inr V) Tryz.results146 V V (.refl _) (.refl _) (.bool _) (.iface0) ⟨by rw [leq_ok hj]; rfl, rfl⟩
 ·
  refine qR V <| qL V V V V ta53 V <| qL V V V V ta27 V <| qL V V V V ta27 V ?_
  refine qX V V V V co145 (hof _) ?_
  refine qM V V V <| qO V <| zJ0 V V V <| qO V <| zJ0 V V V <| qO V <| zN0 V zm27 V V <| qO V <| zC0 V V V V sz27 V V (zA V) V <| qA V V V <| qN <| zB <| zB <| qR V <| qM V V V <| qN <| zX <| zB <| qR V <| qO V <| zR1 V V zL1 (by simp) ?_
  refine qO V <| op_ifint V zG0 okCmp zL1 V V (.inl Vv) <| qA V V V <| qN <| zL V (V) <| zB <| qR V <| qO V <| zR3 V zG0 V V (.inl Vv) <| qA V V V <| qN <| zL V (V) <| zQ <| zB <| qR V <| qA V V V <| qA V V V <| qN <| zI ?_
  exact ret_tmp2 (.inr V) Tryz.results146 V V (.refl _) (.refl _) (.bool _) (.iface0) ⟨by rw [leq_13 hj]; rfl, rfl⟩
 ·
  refine qR V <| qL V V V V ta53 V <| qL V V V V ta27 V <| qL V V V V ta27 V ?_
  refine qX V V V V co145 (hof _) ?_
  refine qM V V V <| qO V <| zJ0 V V V <| qO V <| zJ0 V V V <| qO V <| zN0 V zm27 V V <| qO V <| zC0 V V V V sz27 V V (zA V) V <| qA V V V <| qN <| zB <| zB <| qR V <| qM V V V <| qN <| zX <| zB <| qR V <| qO V <| zR1 V V zL1 (by simp) ?_
  refine qO V <| op_ifint V zG0 okCmp zL1 V V (.inl Vv) <| qA V V V <| qN <| zT V (V) <| zB <| qR V <| qO V <| zR1 V V zL1 (by simp) ?_
  refine qA V V V <| qA V V V <| qN <| zI ?_
  exact ret_tmp2 (.inr V) Tryz.results146 V V (.refl _) (.refl _) (.bool _) (.iface _ _ (.int _ _)) ⟨by rw [leq_14 hj]; rfl, rfl⟩
end Go.Proofs.YtciimaabeabkdaaGreatDoor
section
namespace Go.MV
open Go Go.RowKit
section
variable {P : Program} {rd : Option Nat} {o : Oper} {env : Env} {S L : MS} {K : MV → MS → Prop}
theorem op_buildSlice0' {t e sz bytes k : Nat} {L' : MS} (ho : o.op = .buildSlice t 0 #[]) (hu : P.underlying t = some (.slice e)) (he : elemOk P e sz bytes = true) (hk : L.length = k) (hL : L ++ [.row e sz 0] = L') (h : K (.lst (some (S.length + k)) sz []) (S ++ L')) : OpWp P rd o env (S ++ L) K :=
 op_buildSlice0 ho hu he (by rw [zG, hk, zN, hL]; exact h)
end
end Go.MV
namespace Go.Proofs.YtciimaabeabkdaaGreatDoor
open Go Go.MV
def tabs4 : List Tbl := [([109], 1, .mk 1 []), ([115], 1, .mk 3 []), ([108], 2, .mk 6 []), ([99], 3, causeS (.mk 3 []))]
def zV : MV := .agg [.int .u64 0, .int .u64 0, .lst0, .lst0, .lst0]
theorem cl_tbs (n : Nat) (l : List Tbl) : Cl n (.lst none 4 (l.map encTb)) := by
 refine .lst none 4 _ (fun t ht => by cases ht) fun x hx => ?_
 simp only [flat, List.mem_flatMap, List.mem_map] at hx
 obtain ⟨y, ⟨t, _, rfl⟩, hx⟩ := hx
 have h := cl_encTb n t
 obtain ⟨a, b, ⟨k, i⟩⟩ := t
 cases h with
 | agg _ h => exact h x hx
def tbO (l : List Tbl) (keys : List Bs) (mid : Nat) : MObj := .cells [.lst none 4 (l.map encTb), .lst none 1 (keys.map encX), .map mid]
def tbO0 (l : List Tbl) (mid : Nat) : MObj := .cells [.lst none 4 (l.map encTb), .lst0, .map mid]
def getF (l : List Tbl) (w : Option Val) (key : Bs) : Val := w.getD (BottomF ((findP l key).getD tb0).2.2)
theorem law20_tables_spec (S : MS) : MCalls Tryz.prog 36 [] S fun v σ' => v = .lst none 4 (tabs4.map encTb) ∧ σ' = S := by
 refine zM Tryz.func36 V Tryz.ntmps36 (zA V) ?_
 refine zB <| qR V <| qA V V V <| qN <| zB <| qR V <| qO V <| zA1 V zA3 zm53 (.cons zJ2 sz3 V V (zA V) .nil) (by kernel_rfl) ?_
 refine qO V <| zZ1 (y := encTb ([109], 1, .mk 1 [])) (zA1 V zM4 zm55 (.cons fo55_0 sz9 V V (zA V) (.cons fo55_1 sz3 V V (zA V) (.cons zZ6 sz53 V V (zA V) .nil))) (by kernel_rfl) Vv) (.agg (.cons (.refl _) (.cons (.refl _) (.cons (.refl _) (.cons (.nil 2) .nil))))) ?_
 refine qO V <| zA1 V zA3 zm53 (.cons zJ2 sz3 V V (zA V) .nil) (by kernel_rfl) ?_
 refine qO V <| zZ1 (y := encTb ([115], 1, .mk 3 [])) (zA1 V zM4 zm55 (.cons fo55_0 sz9 V V (zA V) (.cons fo55_1 sz3 V V (zA V) (.cons zZ6 sz53 V V (zA V) .nil))) (by kernel_rfl) Vv) (.agg (.cons (.refl _) (.cons (.refl _) (.cons (.refl _) (.cons (.nil 2) .nil))))) ?_
 refine qO V <| zA1 V zA3 zm53 (.cons zJ2 sz3 V V (zA V) .nil) (by kernel_rfl) ?_
 refine qO V <| zZ1 (y := encTb ([108], 2, .mk 6 [])) (zA1 V zM4 zm55 (.cons fo55_0 sz9 V V (zA V) (.cons fo55_1 sz3 V V (zA V) (.cons zZ6 sz53 V V (zA V) .nil))) (by kernel_rfl) Vv) (.agg (.cons (.refl _) (.cons (.refl _) (.cons (.refl _) (.cons (.nil 2) .nil))))) ?_
 refine qO V <| zZ1 (y := encS (.mk 3 [])) (zA1 V zA3 zm53 (.cons zJ2 sz3 V V (zA V) .nil) (by kernel_rfl) Vv) (.agg (.cons (.refl _) (.cons (.nil 2) .nil))) ?_
 refine qX V V V V co62 (rCauseSch_spec (.mk 3 []) _) ?_
 refine qO V <| zA1 V zM4 zm55 (.cons fo55_0 sz9 V V (zA V) (.cons fo55_1 sz3 V V (zA V) (.cons zZ6 sz53 V V (zA V) .nil))) (by kernel_rfl) ?_
 refine qO V <| zJ1 V zQ2 el55 V V (by decide) (by decide) V V ?_
 refine qA V V V <| qN <| zI ?_
 exact zR (.inr V) Tryz.results36 V (.of_eq (V)) (cl_tbs _ tabs4) Vv
theorem tbClone_spec (l : List Tbl) (hl : l.length ≤ 1000) (S : MS) : MCalls Tryz.prog 83 [.lst none 4 (l.map encTb)] S fun v σ' => v = .lst none 4 (l.map encTb) ∧ σ' = S := by
 refine zM Tryz.func83 V Tryz.ntmps83 (zA V) ?_
 refine zB <| qR V <| qA V V V <| qN <| zB <| zB <| qR V <| qM V V V <| qO V <| op_slicenil V zQ2 V V (by decide) ?_
 intro b hb
 refine qN ?_
 refine zJ V (fun h4 => ?_) (fun h4 => ?_)
 ·
  have hl0 : l = [] := by simpa using hb h4
  subst hl0
  refine zB <| qR V <| qA V V V <| qN <| zI ?_
  exact zR (.inr V) Tryz.results83 V (.nil 4) (cl_tbs _ []) Vv
 ·
  refine zQ <| zB <| qR V <| qO V <| op_buildSlice0' V zQ2 el55 V V <| qM V V V <| qO V <| zN3 V zQ2 el55 V V V (by simp) (by simp; omega) (by simp; omega) V ?_
  refine qA V V V <| qN <| zI ?_
  exact zR (.inr V) Tryz.results83 V (.view _ _ _) (cl_tbs _ l) Vv
end Go.Proofs.YtciimaabeabkdaaGreatDoor
end
namespace Go.Proofs.YtciimaabeabkdaaGreatDoor
open Go Go.MV Go.RowKit Go.Extern.Stop Go.Extern
theorem nilErr2 (v : Value) (w : World) : (binOp .eql 43 .nilIface (.iface 49 v)).run Tryz.prog w = .ok (.bool false) w := by
 have h : ∀ d : Nat, (Op.equalIn (d + 1) 43 .nilIface (.iface 49 v)).run Tryz.prog w = .ok false w := fun d => by simp [Op.equalIn, run_underlying zG0]
 simp only [binOp]
 simp [Op.equal, Op.maxDepth, h 9999]
theorem nilNil (w : World) : (binOp .eql 43 .nilIface .nilIface).run Tryz.prog w = .ok (.bool true) w := by
 have h : ∀ d : Nat, (Op.equalIn (d + 1) 43 .nilIface .nilIface).run Tryz.prog w = .ok true w := fun d => by simp [Op.equalIn, run_underlying zG0]
 simp only [binOp]
 simp [Op.equal, Op.maxDepth, h 9999]
theorem isNone (m : Int) (w : World) : Calls Tryz.prog 18 #[.nilIface, .iface 49 (.int .i64 m)] w fun e w' => e = .returned (.bool false) ∧ w' = w := by
 have h1 := nilNil w
 have h2 := nilErr2 (.int .i64 m) w
 go_enter Tryz.func18, Tryz.ntmps18
 go_wp2
 go_ret
 exact ⟨rfl, rfl⟩
end Go.Proofs.YtciimaabeabkdaaGreatDoor
namespace Go.Proofs.YtciimaabeabkdaaGreatDoor
open Go Go.MV Go.RowKit
structure RdT {γ : Type} (id l : Nat) (T : RdS → γ → MS) : Prop where
 get : ∀ r c, (T r c)[id]? = some (rdO r)
 set : ∀ r r' c, (T r c).set id (rdO r') = T r' c
 len : ∀ r c, (T r c).length = l
 cls : ∀ r c, ClS (T r c)
def rowGoC {α γ : Type} (f : RdS → γ → α × RdS × γ) : Nat → List α → RdS → γ → List α × RdS × γ
 | 0, acc, r, c => (acc, r, c)
 | k + 1, acc, r, c => if r.2.isSome then ([], r, c) else rowGoC f k (acc ++ [(f r c).1]) (f r c).2.1 (f r c).2.2
def rowStart (r : RdS) : RdS := if 40 < (numM r).1 then failR 13 (numM r).2 else (numM r).2
def rowC {α γ : Type} (f : RdS → γ → α × RdS × γ) (r : RdS) (c : γ) : List α × RdS × γ := rowGoC f (numM r).1 [] (rowStart r) c
def OneOk {α γ : Type} (I : Nat → γ → Prop) (kc : FuncId) (fi ca : List MV) (en : α → MV) (T : RdS → γ → MS) (f : RdS → γ → α × RdS × γ) : Prop := ∀ j r c L, j < 40 → I j c → r.1.length ≤ 8000000 → r.2 = none → MCalls Tryz.prog kc (fi ++ [] ++ ca) (T r c ++ L) fun v σ' => v = en (f r c).1 ∧ σ' = T (f r c).2.1 (f r c).2.2 ++ L
theorem get_lastO {A : MS} {l : Nat} {o : MObj} (h : A.length = l) : (A ++ [o])[l]? = some o := by subst h; simp
theorem own_getS {S S1 L : MS} {k : Nat} (h : S1.length = S.length) : (S1 ++ L)[S.length + k]? = L[k]? := by rw [← h, getElem?_own]
theorem own_setS {S S1 L : MS} {k : Nat} {o : MObj} (h : S1.length = S.length) : (S1 ++ L).set (S.length + k) o = S1 ++ L.set k o := by rw [← h, zP5]
theorem ret_cellS {P : Program} {fn : Func} {S S' L : MS} {R : MV → MS → Prop} {env : Env} {e : Exit} {a t k off : Nat} {l : List MV} {ta : Option Nat} {x y : MV} (hlen : S'.length = S.length) (he : e = .normal ∨ e = .ret) (hres : fn.results = #[.cell a t]) (ha : get env a = some (.ref (S.length + k) off)) (hl : L[k]? = some (.cells l)) (ht : tyAgg P t = some ta) (hm : loadMV ta l off = some x) (hs : Sub x y) (hc : Cl S'.length y) (hS : ClS S') (hR : R y S') : BodyQ P fn S R e env (S' ++ L) := by
 refine ⟨he, [x], y, S', L, ?_, hs, hc, rfl, by omega, .inr hS, hR⟩
 rw [hres]
 exact .cell ha (by rw [own_getS hlen]; exact hl) ht hm .nil
theorem RdT.base {S : MS} {id : Nat} {r : RdS} (h : S[id]? = some (rdO r)) (hcl : ClS S) : RdT (γ := Unit) id S.length (fun r _ => S.set id (rdO r)) where
 get _ _ := zO4 h
 set _ _ _ := set_set
 len _ _ := by simp
 cls r _ := hcl.set (rd_cl _ r)
def unitF {α : Type} (M : RdS → α × RdS) (r : RdS) (_ : Unit) : α × RdS × Unit := ((M r).1, (M r).2, ())
theorem OneOk.base {α : Type} {kc : FuncId} {fi ca : List MV} {en : α → MV} {M : RdS → α × RdS} {S : MS} {id : Nat} {r0 : RdS} (h : S[id]? = some (rdO r0)) (hm : Reads kc (fi ++ [] ++ ca) id en M) : OneOk (γ := Unit) (fun _ _ => True) kc fi ca en (fun r _ => S.set id (rdO r)) (unitF M) := fun _ r c L _ _ hl _ => by
 have := hm.sl (r := r) (S := S.set id (rdO r)) (L := L) (zO4 h) hl
 rw [set_set] at this
 exact this
theorem op_load_own {P : Program} {rd : Option Nat} {o : Oper} {env : Env} {K : MV → MS → Prop} {S S1 L : MS} {t : TypeId} {x : Operand} {k off : Nat} {l : List MV} {ta : Option Nat} {m : MV} (hlen : S1.length = S.length) (ho : o.op = .load t x) (hx : evo env x = some (.ref (S.length + k) off)) (hσ : L[k]? = some (.cells l)) (ht : tyAgg P t = some ta) (hm : loadMV ta l off = some m) (h : K m (S1 ++ L)) : OpWp P rd o env (S1 ++ L) K :=
 zP ho hx (by rw [own_getS hlen]; exact hσ) ht hm h
theorem _root_.zL0 : type_of% @op_load_own := @op_load_own
theorem op_store_own {P : Program} {rd : Option Nat} {o : Oper} {env : Env} {K : MV → MS → Prop} {S S1 L L' : MS} {t : TypeId} {x y : Operand} {i off : Nat} {l : List MV} {m : MV} {k : Nat} (hlen : S1.length = S.length) (ho : o.op = .store t x y) (hx : evo env x = some (.ref (S.length + i) off)) (hy : evo env y = some m) (hσ : L[i]? = some (.cells l)) (hk : szOf P t = some k) (hm : m.cells.length = k)
  (h1 : m.cells.all MV.one = true) (hle : off + k ≤ l.length) (hL : L.set i (.cells (setMany l off m.cells)) = L') (h : K (.tup []) (S1 ++ L')) : OpWp P rd o env (S1 ++ L) K := by
 refine zQ5 ho hx hy (by rw [own_getS hlen]; exact hσ) hk hm h1 hle ?_
 rw [own_setS hlen, hL]
 exact h
theorem _root_.zO6 : type_of% @op_store_own := @op_store_own
structure PrAt (S : MS) (id t : Nat) (l : Bs) : Prop where
 ne : id ≠ t
 ob : ∃ p, (p = .ptr0 ∨ p = .ref id 0) ∧ S[id]? = some (.tcells 232 [p, .lst (some t) 1 (l.map encY)])
 row : S[t]? = some (.row 5 1 l.length)
theorem PrAt.idl {S : MS} {id t : Nat} {l : Bs} (h : PrAt S id t l) : id < S.length := by
 obtain ⟨p, _, hp⟩ := h.ob
 exact (zD.1 hp).1
theorem PrAt.tl {S : MS} {id t : Nat} {l : Bs} (h : PrAt S id t l) : t < S.length := (zD.1 h.row).1
theorem PrAt.pr {S : MS} {id t : Nat} {l : Bs} (h : PrAt S id t l) (m : Bs) : PrAt (pr S id t m) id t m := by
 refine ⟨h.ne, ⟨_, .inr rfl, ?_⟩, ?_⟩
 ·unfold Go.Proofs.YtciimaabeabkdaaGreatDoor.pr prO
  exact get_neO h.ne.symm (by rw [List.getElem?_set_self h.idl])
 ·unfold Go.Proofs.YtciimaabeabkdaaGreatDoor.pr
  rw [List.getElem?_set_self (by simpa using h.tl)]
theorem PrAt.sl {S : MS} {id t : Nat} {l : Bs} (h : PrAt S id t l) (L : MS) : PrAt (S ++ L) id t l := by
 obtain ⟨p, hp, ho⟩ := h.ob
 exact ⟨h.ne, ⟨p, hp, zK1 ho⟩, zK1 h.row⟩
theorem pr_sl {S : MS} {id t : Nat} {l m : Bs} (h : PrAt S id t l) (L : MS) : pr (S ++ L) id t m = pr S id t m ++ L := by
 unfold pr
 rw [List.set_append_left _ _ h.idl, List.set_append_left _ _ (by simpa using h.tl)]
theorem pr_pr {S : MS} {id t : Nat} {l m n : Bs} (h : PrAt S id t l) : pr (pr S id t m) id t n = pr S id t n := by
 unfold pr
 rw [List.set_comm _ _ h.ne.symm, List.set_set, List.set_set]
theorem write_at {S : MS} {id t : Nat} {l : Bs} (h : PrAt S id t l) (s : Bs) (hlen : l.length + s.length ≤ 10000000) (L : MS) : MCalls Tryz.prog 125 [.ref id 0, .str (bs s)] (S ++ L) fun v σ' => v = .tup [.int .i64 (s.length : Int), .iface0] ∧ σ' = pr S id t (l ++ s) ++ L := by
 obtain ⟨p, hp, ho⟩ := (h.sl L).ob
 refine (write_spec id t p hp l s h.ne _ ho (h.sl L).row hlen).mono fun v σ' hv => ⟨hv.1, ?_⟩
 rw [hv.2, pr_sl h]
def Writes (k : FuncId) (id t : Nat) (xs : List MV) (s : Bs) : Prop := ∀ (l : Bs) (S : MS), PrAt S id t l → l.length + s.length ≤ 8000000 → MCalls Tryz.prog k xs S fun v σ' => v = .tup [] ∧ σ' = pr S id t (l ++ s)
theorem Writes.sl {k : FuncId} {id t : Nat} {xs : List MV} {s l : Bs} (hw : Writes k id t xs s) {S : MS} (h : PrAt S id t l) (hl : l.length + s.length ≤ 8000000) (L : MS) : MCalls Tryz.prog k xs (S ++ L) fun v σ' => v = .tup [] ∧ σ' = pr S id t (l ++ s) ++ L :=
 (hw l (S ++ L) (h.sl L) hl).mono fun v σ' hv => ⟨hv.1, by rw [hv.2, pr_sl h]⟩
def WritesN (k : FuncId) (id t : Nat) (xs : List MV) (s : Bs) : Prop := ∀ (l : Bs) (S : MS), PrAt S id t l → l.length + s.length ≤ 9000000 → MCalls Tryz.prog k xs S fun v σ' => v = .tup [] ∧ σ' = pr S id t (l ++ s)
theorem WritesN.sl {k : FuncId} {id t : Nat} {xs : List MV} {s l : Bs} (hw : WritesN k id t xs s) {S : MS} (h : PrAt S id t l) (hl : l.length + s.length ≤ 9000000) (L : MS) : MCalls Tryz.prog k xs (S ++ L) fun v σ' => v = .tup [] ∧ σ' = pr S id t (l ++ s) ++ L :=
 (hw l (S ++ L) (h.sl L) hl).mono fun v σ' hv => ⟨hv.1, by rw [hv.2, pr_sl h]⟩
theorem flat_len {s : List Bs} (h : ∀ x ∈ s, x.length ≤ 1000) : ∀ i, ((s.take i).flatMap textB).length ≤ i * 1003
 | 0 => by simp
 | i + 1 => by
  have ih := flat_len h i
  rw [List.take_add_one, List.flatMap_append, zG]
  cases hs : s[i]? with
  | none => simp only [Option.toList_none, List.flatMap_nil, List.length_nil]; omega
  | some x =>
   have hx := h x (zW hs)
   have := (numB_len (show x.length < 2097152 by omega)).2
   simp only [Option.toList_some, List.flatMap_cons, List.flatMap_nil, List.append_nil, textB, zG]
   omega
theorem flat_take {s : List Bs} {i : Nat} {x : Bs} (h : s[i]? = some x) : (s.take (i + 1)).flatMap textB = (s.take i).flatMap textB ++ textB x := by
 rw [List.take_add_one, h, List.flatMap_append]
 simp
theorem numB_len10 : ∀ k m : Nat, m < 128 ^ (k + 1) → (numB m).length ≤ k + 1
 | 0, m, h => by rw [numB_lo (by simpa using h)]; simp
 | k + 1, m, h => by
  by_cases hm : m < 128
  ·rw [numB_lo hm]; simp
  ·have := numB_len10 k (m / 128) (by rw [Nat.pow_succ] at h; omega)
   rw [numB_hi hm]
   simp
   exact this
theorem _root_.zP2 : type_of% @numB_len10 := @numB_len10
theorem num_writes (id t n : Nat) (hn : n < 18446744073709551616) : WritesN 194 id t [.ref id 0, .int .u64 (n : Int)] (numB n) := by
 intro l S h hl
 have hnl := zP2 9 n (by omega)
 refine zM Tryz.func194 V Tryz.ntmps194 (zA V) ?_
 refine zW0 fun _ hcl => ?_
 rw [List.append_nil] at hcl
 refine zX0 [5] [_, pr S id t (l ++ numB n) ++ []] mo (by decide) V V V V ?_
 refine zU V V (.cons (zY V V Vv) (.cons (zY V V Vv) (.nil))) <| zU V V (.cons (zD0 V V V Vv) (.cons (zD0 V V V Vv) (.nil))) <| dO V V V (zE V V fo232_0 Vv) <| zU V V (.cons (zY V V Vv) (.cons (zY V V Vv) (.nil))) <| zU V V (.cons (zD1 V V V co170 (codeNum_spec n hn (by omega) _)) .nil) ?_
 refine zB1 V V V V (zD1 V V V co125 (write_at h (numB n) (by omega) [])) ?_
 refine zP0 ?_
 exact zB2 (by simp) Tryz.results194 (by rw [zU2]; exact Nat.le_refl _) (cls_pr hcl h.idl h.tl) Vv
theorem _root_.zY4 : type_of% @num_writes := @num_writes
def flatB (k : Int) : Val → Bs
 | .mk n _ s _ _ => if k = 3 then rowB textB s else numB n.toNat
theorem _root_.zZ4 : type_of% @Tryz.ntmps153 := @Tryz.ntmps153
theorem _root_.zN4 : type_of% @Tryz.results153 := @Tryz.results153
theorem flat_writes (k : Int) (ins : List Sch) (hk : k = 1 ∨ k = 2 ∨ k = 3) (n m : Int) (s : List Bs) (c : List (List Tk)) (w : List Val) (hn : 0 ≤ n ∧ n < 18446744073709551616) (hsl : s.length ≤ 1000) (hs0 : ∀ x ∈ s, x.length ≤ 1000) (id t : Nat) : Writes 153 id t [.ref id 0, encS (.mk k ins), encV (.mk n m s c w)] (flatB k (.mk n m s c w)) := by
 intro l S h hl
 rcases hk with rfl | rfl | rfl
 ·
  obtain ⟨n, rfl⟩ : ∃ q : Nat, n = (q : Int) := ⟨n.toNat, by omega⟩
  refine zM zT4 V zZ4 (zA V) ?_
  refine zW0 fun _ hcl => ?_
  rw [List.append_nil] at hcl
  have hlen' : s.length ≤ maxLen := by simp only [maxLen]; omega
  have hnb := zP2 9 s.length (by omega)
  refine zB <| qR V <| qB V V V V V <| qB V V V V V <| qN <| zB <| qR V <| qF V V V zJ2 <| qO V <| zL0 (by simp [zU2]) V V V ta3 V ?_
  refine qN <| zX <| zB <| zB <| qR V <| qC V V V V V <| qA V V V <| qN <| zT V (V) <| zQ <| zT V (V) <| qR V <| qM V V V <| qF V V V zC5 <| qO V <| zL0 (by simp [zU2]) V V V ta22 V ?_
  refine qX V V V V co194 ((zY4 id t n (by omega)).sl h (by have hl2 : l.length + (numB n).length ≤ 8000000 := hl; omega) _) ?_
  refine qN ?_
  exact zB2 (by simp) zN4 (by rw [zU2]; exact Nat.le_refl _) (cls_pr hcl h.idl h.tl) Vv
 ·
  obtain ⟨n, rfl⟩ : ∃ q : Nat, n = (q : Int) := ⟨n.toNat, by omega⟩
  refine zM zT4 V zZ4 (zA V) ?_
  refine zW0 fun _ hcl => ?_
  rw [List.append_nil] at hcl
  have hlen' : s.length ≤ maxLen := by simp only [maxLen]; omega
  have hnb := zP2 9 s.length (by omega)
  refine zB <| qR V <| qB V V V V V <| qB V V V V V <| qN <| zB <| qR V <| qF V V V zJ2 <| qO V <| zL0 (by simp [zU2]) V V V ta3 V ?_
  refine qN <| zX <| zB <| zB <| qR V <| qC V V V V V <| qA V V V <| qN <| zL V (V) <| qR V <| qC V V V V V <| qA V V V <| qN <| zT V (V) <| qR V <| qM V V V <| qF V V V zC5 <| qO V <| zL0 (by simp [zU2]) V V V ta22 V ?_
  refine qX V V V V co194 ((zY4 id t n (by omega)).sl h (by have hl2 : l.length + (numB n).length ≤ 8000000 := hl; omega) _) ?_
  refine qN ?_
  exact zB2 (by simp) zN4 (by rw [zU2]; exact Nat.le_refl _) (cls_pr hcl h.idl h.tl) Vv
 ·
  obtain ⟨n, rfl⟩ : ∃ q : Nat, n = (q : Int) := ⟨n.toNat, by omega⟩
  refine zM zT4 V zZ4 (zA V) ?_
  refine zW0 fun _ hcl => ?_
  rw [List.append_nil] at hcl
  have hlen' : s.length ≤ maxLen := by simp only [maxLen]; omega
  have hnb := zP2 9 s.length (by omega)
  refine zB <| qR V <| qB V V V V V <| qB V V V V V <| qN <| zB <| qR V <| qF V V V zJ2 <| qO V <| zL0 (by simp [zU2]) V V V ta3 V ?_
  refine qN <| zX <| zB <| zB <| qR V <| qC V V V V V <| qA V V V <| qN <| zL V (V) <| qR V <| qC V V V V V <| qA V V V <| qN <| zL V (V) <| zB <| zB <| qR V <| qC V V V V V <| qA V V V <| qN <| zT V (V) <| zQ <| zT V (V) <| zB ?_
  refine qR V <| qM V V V <| qF V V V zC3 <| qO V <| zL0 (by simp [zU2]) V V V ta23 V ?_
  refine qE V V zB0 V <| qO V <| zX1 V zH1 zZ0 V (zX2 (by rw [zF]; omega)) ?_
  rw [zF]
  refine qX V V V V co194 ((zY4 id t s.length (by omega)).sl h (by rw [flatB, if_pos rfl, rowB, zG] at hl; omega) _) ?_
  refine qN <| zB <| qR V <| qF V V V zC3 <| qO V <| zL0 (by simp [zU2]) V V V ta23 V ?_
  refine qE V V zB0 V <| qM V V V <| qN <| zX ?_
  show mwp _ _ _ _ _ _ _ (([] : MS) ++ (pr S id t (l ++ numB s.length) ++ [.cells (encS (.mk 3 ins)).cells, .cells (encV (.mk n m s c w)).cells]))
  refine zS1 (α := Nat) [(0, _), (4, _), (5, _), (61, _), (62, _)] (fun i => [(63, .int .i64 (i : Int))]) (fun i => (pr S id t (l ++ numB s.length ++ (s.take i).flatMap textB) ++ [.cells (encS (.mk 3 ins)).cells, .cells (encV (.mk n m s c w)).cells])) (fun i => i ≤ s.length) (fun i => s.length - i) (0) (.keep V (.keep V (.keep V (.keep V (.keep V (.nil)))))) (.keep V (.nil)) (by omega) (by simp) ?_
  rintro i hi
  show mwp _ _ _ _ _ _ _ (pr S id t (l ++ numB s.length ++ (s.take i).flatMap textB) ++ [.cells (encS (.mk 3 ins)).cells, .cells (encV (.mk n m s c w)).cells])
  have hw := h.pr (l ++ numB s.length ++ (s.take i).flatMap textB)
  have hfl := flat_len hs0 i
  refine zB <| qR V <| qC V V V V V <| qN <| zB ?_
  refine zJ V (fun h64 => ?_) (fun h64 => ?_)
  ·
   have hlt : i < s.length := by simpa using h64
   obtain ⟨x, hs⟩ : ∃ q_, s[i]? = some q_ := ⟨_, zC hlt⟩
   refine zQ <| zB <| zX <| zB <| qR V <| qM V V V <| qO V <| zK V zB0 sz9 (by decide) V V V (zE1 hs) ?_
   refine qO V <| zO V V ta9 V <| qA V V V <| qA V V V <| qN <| zB ?_
   have hx := hs0 x (zW hs)
   have hxl := (numB_len (show x.length < 2097152 by omega)).2
   have hxt : (textB x).length = (numB x.length).length + x.length := by simp [textB]
   refine zX0 [5] [_, pr S id t (l ++ numB s.length ++ (s.take (i + 1)).flatMap textB) ++ [.cells (encS (.mk 3 ins)).cells, .cells (encV (.mk n m s c w)).cells]] mo (by decide) V V V V ?_
   refine zU V V (.cons (zY V V Vv) (.cons (zY V V Vv) (.nil))) <| zU V V (.cons (zD0 V V V Vv) (.cons (zD0 V V V Vv) (.nil))) <| dO V V V (zE V V fo232_0 Vv) <| zU V V (.cons (zY V V Vv) (.cons (zY V V Vv) (.nil))) <| zU V V (.cons (zD1 V V V co126 (codeText_spec x (by omega) _)) .nil) ?_
   refine zB1 V V V V (zD1 V V V co125 (((write_at hw (textB x) (by rw [flatB, if_pos rfl, rowB, zG] at hl; simp only [zG]; omega) _).mono fun v σ' hv => ⟨hv.1, hv.2.trans (by rw [pr_pr h, flat_take hs, ← zN])⟩))) ?_
   refine zP0 <| zB <| qR V <| qF V V V zJ2 <| qO V <| zL0 (by simp [zU2]) V V V ta3 V ?_
   refine qC V V V V V <| qN <| zL V (V) <| zQ <| qR V <| qO V <| zT0 V V V V <| qM V V V <| qN ?_
   refine ⟨i + 1, by omega, by omega, rfl, (.keep V (.keep V (.keep V (.keep V (.keep V (.nil)))))), (.eq V (zQ1 hlt hlen') (.nil))⟩
  ·
   have hge : i = s.length := by simp at h64; omega
   refine zM1 ?_
   exact zB2 (by simp) zN4 (by rw [zU2]; exact Nat.le_refl _) (cls_pr hcl h.idl h.tl) ⟨rfl, by rw [hge, List.take_length, flatB, if_pos rfl, rowB, zN]⟩
theorem op_boxT' {P : Program} {rd : Option Nat} {o : Oper} {env : Env} {K : MV → MS → Prop} {S L L' : MS} {t k : Nat} {x : Operand} {m : MV} (ho : o.op = .box t x) (hx : evo env x = some m) (hk : L.length = k) (hL : L ++ [.tcells t m.cells] = L') (h : K (.ref (S.length + k) 0) (S ++ L')) : OpWp P rd o env (S ++ L) K := by
 refine op_boxT ho hx ?_
 subst hk; subst hL
 rw [zG, zN]
 exact h
theorem bytes_spec (sc : Sch) (x : Val) (B : Bs) (hok : okV x) (hyes : (isF 16 sc && isVF sc x) = true) (hB : B ≠ []) (hBl : B.length ≤ 8000000) (hw : ∀ id t, Writes 153 id t [.ref id 0, encS sc, encV x] B) (S : MS) : MCalls Tryz.prog 90 [encS sc, encV x] S fun v σ' => v = .str (bs B) ∧ σ' = S := by
 obtain ⟨k, ins⟩ := sc
 obtain ⟨n, m, s, c, w⟩ := x
 refine zM Tryz.func90 V Tryz.ntmps90 (zA V) ?_
 refine zW0 fun _ hcl => ?_
 rw [List.append_nil] at hcl
 refine zB <| qR V <| qB V V V V V <| qB V V V V V <| qA V V V <| qN <| zB <| zB <| qR V <| qL V V V V ta53 V <| qL V V V V ta27 V ?_
 refine qX V V V V co116 (valIs_spec (.mk k ins) (.mk n m s c w) hok _) ?_
 refine qO V <| zC1 V V <| qN <| zL V (by rw [hyes]; rfl) ?_
 refine zQ <| zB <| qR V <| qO V <| zA1 V Tryz.underlying232 zm232 .nil (by kernel_rfl) ?_
 refine qO V <| op_boxT' (k := 2) V V V V <| qA V V V <| qN <| zB <| mwp_cellrowT 2 1 5 1 V V (Nat.le_refl _) V V ?_
 show mwp _ _ _ _ _ _ _ (S ++ [MObj.cells (encS (.mk k ins)).cells, MObj.cells (encV (.mk n m s c w)).cells, MObj.tcells 232 [.ptr0, .lst (some (S.length + 3)) 1 []], MObj.row 5 1 0])
 have hpa : PrAt (S ++ [MObj.cells (encS (.mk k ins)).cells, MObj.cells (encV (.mk n m s c w)).cells, MObj.tcells 232 [.ptr0, .lst (some (S.length + 3)) 1 []], MObj.row 5 1 0]) (S.length + 2) (S.length + 3) [] := ⟨by omega, ⟨_, .inl rfl, by rw [getElem?_own]; rfl⟩, by rw [getElem?_own]; rfl⟩
 have hpb := hpa.pr B
 obtain ⟨p, hp, hob0⟩ := hpb.ob
 have hrw := hpb.row
 have hob : (pr (S ++ [MObj.cells (encS (.mk k ins)).cells, MObj.cells (encV (.mk n m s c w)).cells, MObj.tcells 232 [.ptr0, .lst (some (S.length + 3)) 1 []], MObj.row 5 1 0]) (S.length + 2) (S.length + 3) B)[S.length + 2]? = some (.tcells 232 [.ref (S.length + 2) 0, .lst (some (S.length + 3)) 1 (B.map encY)]) := by
  unfold pr prO
  exact get_neO (by omega) (by rw [List.getElem?_set_self (by simp)])
 refine qR V <| qM V V V <| qL V V V V ta53 V <| qL V V V V ta27 V ?_
 refine qX V V V V co153 (hw (S.length + 2) (S.length + 3) [] (S ++ [MObj.cells (encS (.mk k ins)).cells, MObj.cells (encV (.mk n m s c w)).cells, MObj.tcells 232 [.ptr0, .lst (some (S.length + 3)) 1 []], MObj.row 5 1 0]) hpa (by simp only [List.length_nil]; omega)) ?_
 refine qN <| zB <| qR V <| qM V V V <| qO V <| zD0 V V V <| qF V V V fo232_0 ?_
 refine qX V V V V co66 (string_spec (S.length + 2) (S.length + 3) B hB (by omega) (pr (S ++ [MObj.cells (encS (.mk k ins)).cells, MObj.cells (encV (.mk n m s c w)).cells, MObj.tcells 232 [.ptr0, .lst (some (S.length + 3)) 1 []], MObj.row 5 1 0]) (S.length + 2) (S.length + 3) B) hob hrw (by omega)) ?_
 refine qA V V V <| qN <| zI ?_
 have hE : (pr (S ++ [MObj.cells (encS (.mk k ins)).cells, MObj.cells (encV (.mk n m s c w)).cells, MObj.tcells 232 [.ptr0, .lst (some (S.length + 3)) 1 []], MObj.row 5 1 0]) (S.length + 2) (S.length + 3) B).set (S.length + 3) .gone = S ++ [.cells (encS (.mk k ins)).cells, .cells (encV (.mk n m s c w)).cells, prO (S.length + 2) (S.length + 3) B, .gone] := by
  unfold pr
  rw [List.set_set, zP5, zP5]
  rfl
 rw [hE]
 exact zR (.inr V) Tryz.results90 V (.refl _) (.str _) Vv
theorem ret_ctt {P : Program} {fn : Func} {S L : MS} {R : MV → MS → Prop} {env : Env} {e : Exit} {a t k off t2 t3 : Nat} {l : List MV} {ta : Option Nat} {x y x2 y2 x3 y3 : MV} (he : e = .normal ∨ e = .ret) (hres : fn.results = #[.cell a t, .tmp t2, .tmp t3]) (ha : get env a = some (.ref (S.length + k) off)) (hl : L[k]? = some (.cells l)) (ht : tyAgg P t = some ta) (hm : loadMV ta l off = some x) (hs : Sub x y) (hc : Cl S.length y)
  (hx2 : get env t2 = some x2) (hs2 : Sub x2 y2) (hc2 : Cl S.length y2) (hx3 : get env t3 = some x3) (hs3 : Sub x3 y3) (hc3 : Cl S.length y3) (hR : R (.tup [y, y2, y3]) S) : BodyQ P fn S R e env (S ++ L) := by
 refine ⟨he, [x, x2, x3], .tup [y, y2, y3], S, L, ?_, .tup (.cons hs (.cons hs2 (.cons hs3 .nil))), .tup _ (fun z hz => ?_), rfl, Nat.le_refl _, .inl rfl, hR⟩
 ·rw [hres]
  exact .cell ha (by rw [getElem?_own]; exact hl) ht hm (.tmp hx2 (.tmp hx3 .nil))
 ·simp only [List.mem_cons, List.not_mem_nil, or_false] at hz
  rcases hz with rfl | rfl | rfl
  ·exact hc
  ·exact hc2
  ·exact hc3
end Go.Proofs.YtciimaabeabkdaaGreatDoor
namespace Go.Proofs.YtciimaabeabkdaaGreatDoor
open Go Go.MV
theorem lev1 : levelF (.mk 1 []) = 1 := by simp [levelF, show isF 16 (.mk 1 []) = true by decide]
theorem lev3 : levelF (.mk 3 []) = 1 := by simp [levelF, show isF 16 (.mk 3 []) = true by decide]
theorem lev6 : levelF (.mk 6 []) = 2 := by simp [levelF, show isF 16 (.mk 6 []) = true by decide]
theorem levC : levelF (causeS (.mk 3 [])) = 3 := by
 unfold levelF
 rw [if_neg (by decide)]
 simp [causeS]
theorem right4 : rightF tabs4 = true := by
 have h : ∀ i < tabs4.length, rightAt tabs4 i = true := by
  intro i hi
  match i, hi with
  | 0, _ => simp [rightAt, tabs4, goodT, namedT, lev1]
  | 1, _ => simp [rightAt, tabs4, goodT, namedT, lev3]
  | 2, _ => simp [rightAt, tabs4, goodT, namedT, lev6]
  | 3, _ => simp [rightAt, tabs4, goodT, namedT, levC]
 rw [right_all h]
 rfl
theorem tblGet_spec (S : MS) (tid mid clk : Nat) (es : List ME) (l : List Tbl) (kx : MV) (key : Bs) (w : Option Val) (hS : S[tid]? = some (.cells [.lst none 4 (l.map encTb), kx, .map mid])) (hm : S[mid]? = some (.mp clk es)) (hl : mpLook (bs key) es = w.map encV) : MCalls Tryz.prog 27 [.ref tid 0, .str (bs key)] S fun v σ' => v = encV (getF l w key) ∧ σ' = S := by
 refine zM Tryz.func27 V Tryz.ntmps27 (zA V) ?_
 obtain ⟨bn, bm, bs_, bc, bv, hB⟩ : ∃ n m s c w, BottomF ((findP l key).getD tb0).2.2 = .mk n m s c w := by cases BottomF ((findP l key).getD tb0).2.2; exact ⟨_, _, _, _, _, rfl⟩
 obtain ⟨ft, hft⟩ : ∃ t, (findP l key).getD tb0 = t := ⟨_, rfl⟩
 have hfs := find_spec l key
 obtain ⟨fb, hfb⟩ : ∃ b, (findP l key).isSome = b := ⟨_, rfl⟩
 rw [hft, hfb] at hfs
 have hbo := Bottom_spec ft.2.2
 rw [show BottomF ft.2.2 = .mk bn bm bs_ bc bv by rw [← hft]; exact hB] at hbo
 obtain ⟨fn, fl, ⟨fk, fi⟩⟩ := ft
 refine zB <| qR V <| qO V <| zN0 V zm27 V V <| qN <| zB <| zB ?_
 rcases w with _ | ⟨vn, vm, vs, vc, vv⟩
 ·
  refine qR V <| qM V V V <| qO V <| zD0 V V V <| qF V V V fo150_1 <| qF V V V fo148_1 <| qO V <| zP1 V V hS ta146 V <| qM V V V <| qO V <| op_lookup_ok (t := 146) (e := 27) (z := zV) (m := zV) (c := false) V (by kernel_rfl) (by kernel_rfl) V V (zS hm) (by rw [hl]; rfl) (by rw [hl]; rfl) ?_
  refine qM V V V <| qO V <| zJ0 V V V <| qO V <| zJ0 V V V <| qO V <| zN0 V zm27 V V <| qO V <| zC0 V V V V sz27 V V (zA V) V <| qA V V V <| qN <| zB <| qR V <| qM V V V <| qN <| zL V (V) <| zQ <| zB <| qR V <| qM V V V <| qO V <| zD0 V V V <| qF V V V fo150_0 <| qO V <| zP1 V V hS ta39 V ?_
  refine qM V V V ?_
  refine qX V V V V co20 (hfs _) ?_
  refine qM V V V <| qO V <| zJ0 V V V <| qO V <| zJ0 V V V <| qO V <| zN0 V zm55 V V <| qO V <| zC0 V V V V sz55 V V (zA V) V <| qA V V V <| qN <| zB <| qR V <| qF V V V zZ6 <| qL V V V V ta53 V ?_
  refine qX V V V V co84 (hbo _) ?_
  refine qO V <| zC0 V V V V sz27 V V (zA V) V <| qN <| zI ?_
  exact zK2 (.inr V) Tryz.results27 V V ta27 V (.of_eq (congrArg encV (show _ = getF l none key from hB.symm))) (zV1 _ (getF l none key)) Vv
 ·
  refine qR V <| qM V V V <| qO V <| zD0 V V V <| qF V V V fo150_1 <| qF V V V fo148_1 <| qO V <| zP1 V V hS ta146 V <| qM V V V <| qO V <| op_lookup_ok (t := 146) (e := 27) (z := zV) (m := encV (.mk vn vm vs vc vv)) (c := true) V (by kernel_rfl) (by kernel_rfl) V V (zS hm) (by rw [hl]; rfl) (by rw [hl]; rfl) ?_
  refine qM V V V <| qO V <| zJ0 V V V <| qO V <| zJ0 V V V <| qO V <| zN0 V zm27 V V <| qO V <| zC0 V V V V sz27 V V (zA V) V <| qA V V V <| qN <| zB <| qR V <| qM V V V <| qN <| zT V (V) <| zB <| qR V <| qL V V V V ta27 V <| qO V <| zC0 V V V V sz27 V V (zA V) V <| qN <| zI ?_
  exact zK2 (.inr V) Tryz.results27 V V ta27 V (.refl _) (zV1 _ (.mk vn vm vs vc vv)) Vv
end Go.Proofs.YtciimaabeabkdaaGreatDoor
namespace Go.Proofs.YtciimaabeabkdaaGreatDoor
open Go Go.MV Go.RowKit
def entB (E : Val → Bs) (p : Bs × Val) : Bs := textB p.1 ++ E p.2
def entsB (E : Val → Bs) (ps : List (Bs × Val)) : Bs := numB ps.length ++ ps.flatMap (entB E)
theorem ents_take {E : Val → Bs} {ps : List (Bs × Val)} {i : Nat} {p : Bs × Val} (h : ps[i]? = some p) : (ps.take (i + 1)).flatMap (entB E) = (ps.take i).flatMap (entB E) ++ textB p.1 ++ E p.2 := by
 rw [List.take_add_one, h, List.flatMap_append]
 simp [entB]
theorem ents_le {E : Val → Bs} {ps : List (Bs × Val)} {i : Nat} {p : Bs × Val} (h : ps[i]? = some p) : ((ps.take i).flatMap (entB E)).length + (textB p.1).length + (E p.2).length ≤ (ps.flatMap (entB E)).length := by
 have h1 : (ps.take (i + 1)).flatMap (entB E) ++ (ps.drop (i + 1)).flatMap (entB E) = ps.flatMap (entB E) := by rw [← List.flatMap_append, List.take_append_drop]
 have h2 := congrArg List.length h1
 rw [ents_take h] at h2
 simp only [zG] at h2
 omega
theorem map_writes (k1 : Int) (i1 : List Sch) (E : Val → Bs) (n m : Int) (c : List (List Tk)) (ps : List (Bs × Val)) (id t : Nat) (hpl : ps.length ≤ 1000) (hps : ∀ p ∈ ps, p.1.length ≤ 1000) (hE : ∀ p ∈ ps, Writes 153 id t [.ref id 0, encS (.mk k1 i1), encV p.2] (E p.2)) : Writes 153 id t [.ref id 0, encS (.mk 4 [.mk k1 i1]), encV (.mk n m (ps.map Prod.fst) c (ps.map Prod.snd))] (entsB E ps) := by
 intro l S h hl
 refine zM zT4 V zZ4 (zA V) ?_
 refine zW0 fun _ hcl => ?_
 rw [List.append_nil] at hcl
 have hlen' : ps.length ≤ maxLen := by simp only [maxLen]; omega
 have hnb := zP2 9 ps.length (by omega)
 rw [entsB, zG] at hl
 refine zB <| qR V <| qB V V V V V <| qB V V V V V <| qN <| zB <| qR V <| qF V V V zJ2 <| qO V <| zL0 (by simp [zU2]) V V V ta3 V ?_
 refine qN <| zX <| zB <| zB <| qR V <| qC V V V V V <| qA V V V <| qN <| zL V (V) <| qR V <| qC V V V V V <| qA V V V <| qN <| zL V (V) <| zB <| zB <| qR V <| qC V V V V V <| qA V V V <| qN <| zL V (V) <| qR V <| qC V V V V V ?_
 refine qA V V V <| qN <| zT V (V) <| zB <| qR V <| qM V V V <| qF V V V zC3 <| qO V <| zL0 (by simp [zU2]) V V V ta23 V ?_
 refine qE V V zB0 V <| qO V <| zX1 V zH1 zZ0 V (zX2 (by rw [zF, zF]; omega)) ?_
 rw [zF, zF]
 refine qX V V V V co194 ((zY4 id t ps.length (by omega)).sl h (by omega) _) ?_
 refine qN <| zB <| qR V <| qF V V V zC3 <| qO V <| zL0 (by simp [zU2]) V V V ta23 V ?_
 refine qE V V zB0 V <| qM V V V <| qN <| zX ?_
 show mwp _ _ _ _ _ _ _ (([] : MS) ++ (pr S id t (l ++ numB ps.length) ++ [.cells (encS (.mk 4 [.mk k1 i1])).cells, .cells (encV (.mk n m (ps.map Prod.fst) c (ps.map Prod.snd))).cells]))
 refine zS1 (α := Nat) [(0, _), (4, _), (5, _), (61, _), (62, _)] (fun i => [(63, .int .i64 (i : Int))]) (fun i => (pr S id t (l ++ numB ps.length ++ (ps.take i).flatMap (entB E)) ++ [.cells (encS (.mk 4 [.mk k1 i1])).cells, .cells (encV (.mk n m (ps.map Prod.fst) c (ps.map Prod.snd))).cells])) (fun i => i ≤ ps.length) (fun i => ps.length - i) (0) (.keep V (.keep V (.keep V (.keep V (.keep V (.nil)))))) (.keep V (.nil)) (by omega) (by simp) ?_
 rintro i hi
 show mwp _ _ _ _ _ _ _ (pr S id t (l ++ numB ps.length ++ (ps.take i).flatMap (entB E)) ++ [.cells (encS (.mk 4 [.mk k1 i1])).cells, .cells (encV (.mk n m (ps.map Prod.fst) c (ps.map Prod.snd))).cells])
 have hw := h.pr (l ++ numB ps.length ++ (ps.take i).flatMap (entB E))
 refine zB <| qR V <| qC V V V V V <| qN <| zB ?_
 refine zJ V (fun h64 => ?_) (fun h64 => ?_)
 ·
  rw [zF, zF] at h64
  have hlt : i < ps.length := by simpa using h64
  obtain ⟨⟨x, ⟨n9, m9, s9, c9, w9⟩⟩, hs⟩ : ∃ q_, ps[i]? = some q_ := ⟨_, zC hlt⟩
  have hpm := zW hs
  have hx := hps _ hpm
  dsimp only at hx
  have hle := ents_le (E := E) hs
  dsimp only at hle
  have hxl := (numB_len (show x.length < 2097152 by omega)).2
  have hxt : (textB x).length = (numB x.length).length + x.length := by simp [textB]
  have hgx : ((ps.map Prod.fst).map encX)[i]? = some (encX x) := by rw [zH0, zH0, hs]; rfl
  have hgw : (encVs (ps.map Prod.snd))[i]? = some (encV (.mk n9 m9 s9 c9 w9)) := by rw [encVs_eq, zH0, zH0, hs]; rfl
  refine zQ <| zB <| zX <| zB <| qR V <| qM V V V <| qO V <| zK V zB0 sz9 (by decide) V V V hgx ?_
  refine qO V <| zO V V ta9 V <| qA V V V <| qA V V V <| qN <| zB ?_
  refine zX0 [5] [_, pr S id t (l ++ numB ps.length ++ (ps.take i).flatMap (entB E) ++ textB x) ++ [.cells (encS (.mk 4 [.mk k1 i1])).cells, .cells (encV (.mk n m (ps.map Prod.fst) c (ps.map Prod.snd))).cells]] mo (by decide) V V V V ?_
  refine zU V V (.cons (zY V V Vv) (.cons (zY V V Vv) (.nil))) <| zU V V (.cons (zD0 V V V Vv) (.cons (zD0 V V V Vv) (.nil))) <| dO V V V (zE V V fo232_0 Vv) <| zU V V (.cons (zY V V Vv) (.cons (zY V V Vv) (.nil))) <| zU V V (.cons (zD1 V V V co126 (codeText_spec x (by omega) _)) .nil) ?_
  refine zB1 V V V V (zD1 V V V co125 (((write_at hw (textB x) (by simp only [zG]; omega) _).mono fun v σ' hv => ⟨hv.1, hv.2.trans (by rw [pr_pr h])⟩))) ?_
  refine zP0 <| zB <| qR V <| qF V V V zJ2 <| qO V <| zL0 (by simp [zU2]) V V V ta3 V ?_
  refine qC V V V V V <| qN <| zT V (V) ?_
  refine zX0 [10] [_, pr S id t (l ++ numB ps.length ++ (ps.take i).flatMap (entB E) ++ textB x ++ E (.mk n9 m9 s9 c9 w9)) ++ [.cells (encS (.mk 4 [.mk k1 i1])).cells, .cells (encV (.mk n m (ps.map Prod.fst) c (ps.map Prod.snd))).cells]] mo (by decide) V V V V ?_
  refine dO V V V (zY V V Vv) <| zU V V (.cons (zE V V zS3 Vv) (.cons (zE V V zS3 Vv) (.nil))) <| zU V V (.cons (zL0 (by simp [zU2]) V V V ta51 V Vv) (.cons (zL0 (by simp [zU2]) V V V ta51 V Vv) (.nil))) ?_
  refine zU V V (.cons (zK V zQ0 sz53 (by decide) V V V (show _ = some (encS (.mk k1 i1)) from V) Vv) (.cons (zK V zQ0 sz53 (by decide) V V V (show _ = some (encS (.mk k1 i1)) from V) Vv) (.nil))) ?_
  refine dO V V V (zO V V ta53 V Vv) <| zU V V (.cons (zE V V zI2 Vv) (.cons (zE V V zI2 Vv) (.nil))) <| zU V V (.cons (zL0 (by simp [zU2]) V V V ta25 V Vv) (.cons (zL0 (by simp [zU2]) V V V ta25 V Vv) (.nil))) ?_
  refine zU V V (.cons (zY V V Vv) (.cons (zY V V Vv) (.nil))) <| zU V V (.cons (zK V zI0 sz27 (by decide) V V V hgw Vv) (.cons (zK V zI0 sz27 (by decide) V V V hgw Vv) (.nil))) ?_
  refine dO V V V (zO V V ta27 V Vv) ?_
  refine zB1 V V V V (zD1 V V V co153 ((((hE _ hpm).sl (h.pr (l ++ numB ps.length ++ (ps.take i).flatMap (entB E) ++ textB x)) (by simp only [zG]; omega) _).mono fun v σ' hv => ⟨hv.1, hv.2.trans (by rw [pr_pr h])⟩))) ?_
  refine zP0 <| qR V <| qO V <| zT0 V V V V <| qM V V V <| qN ?_
  refine ⟨i + 1, by omega, by omega, by rw [ents_take hs]; simp only [zN, List.nil_append], (.keep V (.keep V (.keep V (.keep V (.keep V (.nil)))))), (.eq V (zQ1 hlt hlen') (.nil))⟩
 ·
  rw [zF, zF] at h64
  have hge : i = ps.length := by simp at h64; omega
  refine zM1 ?_
  exact zB2 (by simp) zN4 (by rw [zU2]; exact Nat.le_refl _) (cls_pr hcl h.idl h.tl) ⟨rfl, by rw [hge, List.take_length, entsB, zN]⟩
def tkB (t : Tk) : Bs := numB t.1.toNat ++ numB t.2.toNat
def okW (t : Tk) : Prop := (0 ≤ t.1 ∧ t.1 < 9223372036854775808) ∧ 0 ≤ t.2 ∧ t.2 < 18446744073709551616
theorem tkB_len {t : Tk} (h : okW t) : (tkB t).length ≤ 20 := by
 have h1 := zP2 9 t.1.toNat (by have := h.1; omega)
 have h2 := zP2 9 t.2.toNat (by have := h.2; omega)
 rw [tkB, zG]
 omega
theorem tks_len {c : List Tk} (h : ∀ t ∈ c, okW t) : ∀ i, ((c.take i).flatMap tkB).length ≤ i * 20
 | 0 => by simp
 | i + 1 => by
  have ih := tks_len h i
  rw [List.take_add_one, List.flatMap_append, zG]
  cases hs : c[i]? with
  | none => simp only [Option.toList_none, List.flatMap_nil, List.length_nil]; omega
  | some x =>
   have := tkB_len (h x (zW hs))
   simp only [Option.toList_some, List.flatMap_cons, List.flatMap_nil, List.append_nil]
   omega
theorem tks_take {c : List Tk} {i : Nat} {x : Tk} (h : c[i]? = some x) : (c.take (i + 1)).flatMap tkB = (c.take i).flatMap tkB ++ tkB x := by
 rw [List.take_add_one, h, List.flatMap_append]
 simp
theorem clock_writes (c : List Tk) (hc : c.length ≤ 1000) (hc0 : ∀ t ∈ c, okW t) (id t : Nat) (l : Bs) (S : MS) (h : PrAt S id t l) (hl : l.length ≤ 8000000) : MCalls Tryz.prog 195 [.ref id 0, encC c] S fun v σ' => v = .tup [] ∧ σ' = pr S id t (l ++ rowB tkB c) := by
 refine zM Tryz.func195 V Tryz.ntmps195 (zA V) ?_
 refine zW0 fun _ hcl => ?_
 rw [List.append_nil] at hcl
 have hlen' : c.length ≤ maxLen := by simp only [maxLen]; omega
 have hnb := zP2 9 c.length (by omega)
 refine zB <| qR V <| qM V V V <| qM V V V <| qE V V zA0 V <| qO V <| zX1 V zH1 zZ0 V (zX2 (by rw [zF]; omega)) ?_
 rw [zF]
 refine qX V V V V co194 ((zY4 id t c.length (by omega)).sl h (by omega) []) ?_
 refine qN <| zB <| qR V <| qM V V V <| qE V V zA0 V <| qM V V V <| qN <| zX ?_
 show mwp _ _ _ _ _ _ _ (([] : MS) ++ (pr S id t (l ++ numB c.length) ++ []))
 refine zS1 (α := Nat × MS) [(0, _), (11, _), (12, _)] (fun x => [(13, .int .i64 (x.1 : Int))]) (fun x => (pr S id t (l ++ numB c.length ++ (c.take x.1).flatMap tkB) ++ x.2)) (fun x => x.1 ≤ c.length) (fun x => c.length - x.1) (⟨0, []⟩) (.keep V (.keep V (.keep V (.nil)))) (.keep V (.nil)) (by simp) (by simp) ?_
 rintro ⟨i, J⟩ hi
 dsimp only at hi ⊢
 show mwp _ _ _ _ _ _ _ (pr S id t (l ++ numB c.length ++ (c.take i).flatMap tkB) ++ J)
 have hw := h.pr (l ++ numB c.length ++ (c.take i).flatMap tkB)
 have hfl := tks_len hc0 i
 have hpl : (l ++ numB c.length ++ (c.take i).flatMap tkB).length ≤ 20020 + l.length := by simp only [zG]; omega
 refine zB <| qR V <| qC V V V V V <| qN <| zB ?_
 refine zJ V (fun h14 => ?_) (fun h14 => ?_)
 ·
  have hlt : i < c.length := by simpa using h14
  obtain ⟨⟨a, b⟩, hs⟩ : ∃ q_, c[i]? = some q_ := ⟨_, zC hlt⟩
  refine zQ <| zB <| zX <| zB ?_
  have hab := hc0 _ (zW hs)
  obtain ⟨ha1, ha2⟩ := hab
  dsimp only at ha1 ha2
  have hn1 := zP2 9 a.toNat (by omega)
  have hn2 := zP2 9 b.toNat (by omega)
  refine qR V <| qO V <| zK V zA0 sz262 (by decide) V V V (zE1 hs) ?_
  refine qO V <| zO V V ta262 V <| qO V <| zA4 V zm262 <| qO V <| zD2 V V V sz262 V V (zA V) <| qN <| zB <| qR V ?_
  rw [zN (pr S id t _)]
  refine qM V V V <| qF V V V zB6 <| qO V <| zP (l := [.int .i64 a, .int .u64 b]) V V (by rw [← zN]; exact get_lastO (by simp [zU2])) ta3 V ?_
  refine qO V <| zX1 V zH1 zZ0 V (zX2 (by omega)) ?_
  rw [show a = ((a.toNat : Nat) : Int) by omega]
  refine qX V V V V co194 ((zY4 id t a.toNat (by omega)).sl hw (by omega) (J ++ [_])) ?_
  rw [pr_pr h]
  refine qN <| qR V <| qM V V V <| qF V V V fo262_1 <| qO V <| zP (l := [.int .i64 ((a.toNat : Nat) : Int), .int .u64 b]) V V (by rw [← zN]; exact get_lastO (by simp [zU2])) ta22 V ?_
  rw [show b = ((b.toNat : Nat) : Int) by omega]
  refine qX V V V V co194 ((zY4 id t b.toNat (by omega)).sl (h.pr (l ++ numB c.length ++ (c.take i).flatMap tkB ++ numB a.toNat)) (by rw [zG]; omega) (J ++ [_])) ?_
  rw [pr_pr h]
  refine qN <| qR V <| qO V <| zT0 V V V V <| qM V V V <| qN ?_
  refine ⟨⟨i + 1, J ++ [_]⟩, by dsimp only; omega, by dsimp only; omega, by rw [tks_take hs, tkB]; simp only [zN, List.nil_append]; rfl, (.keep V (.keep V (.keep V (.nil)))), (.eq V (zQ1 hlt hlen') (.nil))⟩
 ·
  have hge : i = c.length := by simp at h14; omega
  refine zM1 ?_
  exact zB2 (by simp) Tryz.results195 (by rw [zU2]; exact Nat.le_refl _) (cls_pr hcl h.idl h.tl) ⟨rfl, by rw [hge, List.take_length, rowB, zN]⟩
def entM (M : RdS → Val × RdS) (r : RdS) (c : List Bs) : Val × RdS × List Bs := ((M (textM r).2).1, (M (textM r).2).2, c ++ [(textM r).1])
def mapM (M : RdS → Val × RdS) (r : RdS) : Val × RdS := (.mk 0 0 (rowC (entM M) r []).2.2 [] (rowC (entM M) r []).1, (rowC (entM M) r []).2.1)
section
section
variable {α β : Type}
end
theorem clk_who {c : List Tk} (h : isClockF c = true) : c.length ≤ 40 ∧ ∀ t ∈ c, 0 ≤ t.1 ∧ t.1 ≤ 1000000 := by
 unfold isClockF at h
 rw [Bool.and_eq_true, decide_eq_true_eq, decide_eq_true_eq] at h
 refine ⟨h.2, fun t ht => ?_⟩
 obtain ⟨j, hj⟩ := List.getElem?_of_mem ht
 have h1 := h.1 j (zD.1 hj).1
 unfold okAt at h1
 rw [hj] at h1
 simp only [Bool.and_eq_true, Bool.not_eq_true', decide_eq_false_iff_not] at h1
 omega
theorem short_mem {s : List Bs} (h : shortF s = true) : ∀ x ∈ s, x.length ≤ 16 := fun x hx => by
 have := List.all_eq_true.1 h x hx
 simpa using this
theorem cause_mem {l : List (List Tk)} (h : isCauseF l = true) : ∀ c ∈ l, isClockF c = true := by
 unfold isCauseF at h
 rw [Bool.and_eq_true, List.all_eq_true] at h
 exact h.1
def lastB (v : Val) : Bs := numB v.sv.length ++ v.sv.flatMap fun t => numB v.nv.toNat ++ (numB v.mv.toNat ++ textB t)
def oneB (v : Val) : Bs := rowB tkB (v.cv.headD [])
def mapB (E : Val → Bs) (v : Val) : Bs := entsB E (v.sv.zip v.vv)
def pairB (E F : Val → Bs) (v : Val) : Bs := E (v.vv.headD noV) ++ F (v.vv.tail.headD noV)
def sibB (E : Val → Bs) (p : List Tk × Val) : Bs := rowB tkB p.1 ++ E p.2
def sibsB (E : Val → Bs) (v : Val) : Bs := rowB (sibB E) (v.cv.zip v.vv)
def kindB (k : Int) (fs : List (Val → Bs)) : Val → Bs :=
 if k = 1 ∨ k = 2 ∨ k = 3 then flatB k else if k = 4 then mapB (fs.headD lastB) else if k = 5 then pairB (fs.headD lastB) (fs.tail.headD lastB) else if k = 6 then lastB else if k = 7 then oneB else sibsB (fs.headD lastB)
mutual
def valB : Sch → Val → Bs
 | .mk k ins => kindB k (valBs ins)
def valBs : List Sch → List (Val → Bs)
 | [] => []
 | s :: l => valB s :: valBs l
end
def isOk (s : Sch) (v : Val) : Prop := isVF s v = true ∧ okV v
theorem bare_nums {k : Int} (hk : k = 1 ∨ k = 2) {ins : List Sch} {n m : Int} {s : List Bs} {c : List (List Tk)} {w : List Val} (h : isVF (.mk k ins) (.mk n m s c w) = true) : m = 0 ∧ s = [] ∧ c = [] ∧ w = [] := by
 rw [isVF, isB] at h
 simp only [Bool.and_eq_true] at h
 have hb := h.1.1.1
 rcases hk with rfl | rfl <;> simpa [bareF, numsK, textsK, clocksK, valuesK, Val.nv, Val.mv, Val.sv, Val.cv, Val.vv, List.length_eq_zero_iff, and_assoc] using hb
theorem bare_set {ins : List Sch} {n m : Int} {s : List Bs} {c : List (List Tk)} {w : List Val} (h : isVF (.mk 3 ins) (.mk n m s c w) = true) : n = 0 ∧ m = 0 ∧ c = [] ∧ w = [] ∧ s.length ≤ 40 ∧ ∀ x ∈ s, x.length ≤ 16 := by
 rw [isVF, isB] at h
 simp only [Bool.and_eq_true] at h
 have hb := h.1.1.1
 have hr : isRowF s = true := h.2
 unfold isRowF at hr
 rw [Bool.and_eq_true, Bool.and_eq_true, decide_eq_true_eq] at hr
 have : n = 0 ∧ m = 0 ∧ c = [] ∧ w = [] := by simpa [bareF, numsK, textsK, clocksK, valuesK, Val.nv, Val.mv, Val.sv, Val.cv, Val.vv, List.length_eq_zero_iff, and_assoc] using hb
 exact ⟨this.1, this.2.1, this.2.2.1, this.2.2.2, hr.1.1, short_mem hr.2⟩
theorem bare_map {s1 : Sch} {n m : Int} {s : List Bs} {c : List (List Tk)} {w : List Val} (h : isVF (.mk 4 [s1]) (.mk n m s c w) = true) : n = 0 ∧ m = 0 ∧ c = [] ∧ s.length = w.length ∧ (s.length ≤ 40 ∧ ∀ x ∈ s, x.length ≤ 16) ∧ ∀ x ∈ w, isVF s1 x = true := by
 rw [isVF, isB] at h
 simp only [Bool.and_eq_true] at h
 have hb := h.1.1.1
 have h2 := h.2
 rw [if_neg (by decide), if_neg (by decide), if_neg (by decide), if_pos trivial] at h2
 simp only [Bool.and_eq_true, decide_eq_true_eq, List.all_eq_true, isVL, List.headD_cons] at h2
 obtain ⟨⟨hr, hl⟩, hv⟩ := h2
 unfold isRowF at hr
 rw [Bool.and_eq_true, Bool.and_eq_true, decide_eq_true_eq] at hr
 have : n = 0 ∧ m = 0 ∧ c = [] := by simpa [bareF, numsK, textsK, clocksK, valuesK, Val.nv, Val.mv, Val.sv, Val.cv, Val.vv, List.length_eq_zero_iff, and_assoc] using hb
 exact ⟨this.1, this.2.1, this.2.2, hl, ⟨hr.1.1, short_mem hr.2⟩, fun x hx => (hv x hx).1⟩
theorem zip_fst {α β : Type} : ∀ {a : List α} {b : List β}, a.length = b.length → (a.zip b).map (·.1) = a ∧ (a.zip b).map (·.2) = b
 | [], [], _ => ⟨rfl, rfl⟩
 | [], _ :: _, h => by simp at h
 | _ :: _, [], h => by simp at h
 | x :: a, y :: b, h => by
  obtain ⟨h1, h2⟩ := zip_fst (a := a) (b := b) (by simpa using h)
  exact ⟨by rw [List.zip_cons_cons, List.map_cons, h1], by rw [List.zip_cons_cons, List.map_cons, h2]⟩
theorem zip_len {α β : Type} {a : List α} {b : List β} (h : a.length = b.length) : (a.zip b).length = a.length := by
 rw [List.length_zip]
 omega
theorem ok_vals {n m : Int} {s : List Bs} {c : List (List Tk)} {w : List Val} (h : okV (.mk n m s c w)) : ∀ x ∈ w, okV x := by
 rw [okV] at h
 exact okVs_iff.1 h.2.2.2
theorem bare_pair {s1 s2 : Sch} {n m : Int} {s : List Bs} {c : List (List Tk)} {w : List Val} (h : isVF (.mk 5 [s1, s2]) (.mk n m s c w) = true) : n = 0 ∧ m = 0 ∧ s = [] ∧ c = [] ∧ ∃ x y, w = [x, y] ∧ isVF s1 x = true ∧ isVF s2 y = true := by
 rw [isVF, isB] at h
 simp only [Bool.and_eq_true] at h
 have hb := h.1.1.1
 have h2 := h.2
 rw [if_neg (by decide), if_neg (by decide), if_neg (by decide), if_neg (by decide), if_pos trivial] at h2
 have : n = 0 ∧ m = 0 ∧ s = [] ∧ c = [] := by simpa [bareF, numsK, textsK, clocksK, valuesK, Val.nv, Val.mv, Val.sv, Val.cv, Val.vv, List.length_eq_zero_iff, and_assoc] using hb
 refine ⟨this.1, this.2.1, this.2.2.1, this.2.2.2, ?_⟩
 match w, h2 with
 | [x, y], h2 =>
  simp only [Val.vv, isVL, List.headD_cons, List.tail_cons, Bool.and_eq_true] at h2
  exact ⟨x, y, rfl, h2.1, h2.2⟩
 | [], h2 => cases h2
 | [_], h2 => cases h2
 | _ :: _ :: _ :: _, h2 => cases h2
theorem bare_last {ins : List Sch} {n m : Int} {s : List Bs} {c : List (List Tk)} {w : List Val} (h : isVF (.mk 6 ins) (.mk n m s c w) = true) : c = [] ∧ w = [] ∧ ((s = [] ∧ n = 0 ∧ m = 0) ∨ ∃ t, s = [t] ∧ t.length ≤ 16) := by
 rw [isVF, isB] at h
 simp only [Bool.and_eq_true] at h
 have hb := h.1.1.1
 have h2 := h.2
 rw [if_neg (by decide), if_neg (by decide), if_neg (by decide), if_neg (by decide), if_neg (by decide), if_pos trivial] at h2
 have : c = [] ∧ w = [] := by simpa [bareF, numsK, textsK, clocksK, valuesK, Val.nv, Val.mv, Val.sv, Val.cv, Val.vv, List.length_eq_zero_iff, and_assoc] using hb
 refine ⟨this.1, this.2, ?_⟩
 match s, h2 with
 | [], h2 => simp only [Val.nv, Val.mv, Val.sv, isLastF, Bool.and_eq_true, beq_iff_eq] at h2; exact .inl ⟨rfl, h2.1, h2.2⟩
 | [t], h2 => simp only [Val.nv, Val.mv, Val.sv, isLastF, Bool.and_eq_true, decide_eq_true_eq] at h2; exact .inr ⟨t, rfl, h2.1⟩
 | _ :: _ :: _, h2 => cases h2
theorem bare_one {ins : List Sch} {n m : Int} {s : List Bs} {c : List (List Tk)} {w : List Val} (h : isVF (.mk 7 ins) (.mk n m s c w) = true) : n = 0 ∧ m = 0 ∧ s = [] ∧ w = [] ∧ (c = [] ∨ ∃ x, c = [x] ∧ x.length ≠ 0 ∧ isClockF x = true) := by
 rw [isVF, isB] at h
 simp only [Bool.and_eq_true] at h
 have hb := h.1.1.1
 have h2 := h.2
 rw [if_neg (by decide), if_neg (by decide), if_neg (by decide), if_neg (by decide), if_neg (by decide), if_neg (by decide), if_pos trivial] at h2
 have : n = 0 ∧ m = 0 ∧ s = [] ∧ w = [] := by simpa [bareF, numsK, textsK, clocksK, valuesK, Val.nv, Val.mv, Val.sv, Val.cv, Val.vv, List.length_eq_zero_iff, and_assoc] using hb
 refine ⟨this.1, this.2.1, this.2.2.1, this.2.2.2, ?_⟩
 match c, h2 with
 | [], h2 => exact .inl rfl
 | [x], h2 => simp only [Val.cv, Bool.and_eq_true, decide_eq_true_eq] at h2; exact .inr ⟨x, rfl, by omega, h2.2⟩
 | _ :: _ :: _, h2 => cases h2
theorem bare_sibs {s1 : Sch} {n m : Int} {s : List Bs} {c : List (List Tk)} {w : List Val} (h : isVF (.mk 8 [s1]) (.mk n m s c w) = true) : n = 0 ∧ m = 0 ∧ s = [] ∧ c.length = w.length ∧ (c.length ≤ 40 ∧ ∀ x ∈ c, isClockF x = true) ∧ ∀ x ∈ w, isVF s1 x = true := by
 rw [isVF, isB] at h
 simp only [Bool.and_eq_true] at h
 have hb := h.1.1.1
 have hc := h.1.2
 have h2 := h.2
 rw [if_neg (by decide), if_neg (by decide), if_neg (by decide), if_neg (by decide), if_neg (by decide), if_neg (by decide), if_neg (by decide)] at h2
 simp only [Bool.and_eq_true, decide_eq_true_eq, List.all_eq_true, isVL, List.headD_cons] at h2 hc
 have : n = 0 ∧ m = 0 ∧ s = [] := by simpa [bareF, numsK, textsK, clocksK, valuesK, Val.nv, Val.mv, Val.sv, Val.cv, Val.vv, List.length_eq_zero_iff, and_assoc] using hb
 exact ⟨this.1, this.2.1, this.2.2, h2.1.1, ⟨hc, cause_mem h2.1.2⟩, h2.2⟩
theorem kinds {k : Int} {ins : List Sch} (h : partsF k = (ins.length : Int)) : ((k = 1 ∨ k = 2) ∧ ins = []) ∨ (k = 3 ∧ ins = []) ∨ (k = 6 ∧ ins = []) ∨ (k = 7 ∧ ins = []) ∨ (∃ s, k = 4 ∧ ins = [s]) ∨ (∃ s, k = 8 ∧ ins = [s]) ∨ ∃ s t, k = 5 ∧ ins = [s, t] := by
 have hz : ∀ {l : List Sch}, ((0 : Int) = (l.length : Int)) → l = [] := fun e => List.eq_nil_of_length_eq_zero (by omega)
 have ho : ∀ {l : List Sch}, ((1 : Int) = (l.length : Int)) → ∃ s, l = [s] := fun e => List.length_eq_one_iff.1 (by omega)
 have ht : ∀ {l : List Sch}, ((2 : Int) = (l.length : Int)) → ∃ s t, l = [s, t] := fun {l} e => by
  match l, e with
  | [a, b], _ => exact ⟨a, b, rfl⟩
  | [], e => simp at e
  | [_], e => simp at e
  | _ :: _ :: _ :: _, e => simp at e; omega
 unfold partsF at h
 split at h
 ·rename_i hk
  have := hz h
  rcases hk with hk | hk | hk | hk | hk
  ·exact .inl ⟨.inl hk, this⟩
  ·exact .inl ⟨.inr hk, this⟩
  ·exact .inr (.inl ⟨hk, this⟩)
  ·exact .inr (.inr (.inl ⟨hk, this⟩))
  ·exact .inr (.inr (.inr (.inl ⟨hk, this⟩)))
 ·split at h
  ·rename_i hk
   obtain ⟨s, hs⟩ := ho h
   rcases hk with hk | hk
   ·exact .inr (.inr (.inr (.inr (.inl ⟨s, hk, hs⟩))))
   ·exact .inr (.inr (.inr (.inr (.inr (.inl ⟨s, hk, hs⟩)))))
  ·split at h
   ·rename_i hk
    obtain ⟨s, t, hs⟩ := ht h
    exact .inr (.inr (.inr (.inr (.inr (.inr ⟨s, t, hk, hs⟩)))))
   ·omega
end
end Go.Proofs.YtciimaabeabkdaaGreatDoor
namespace Go.MV
open Go Go.RowKit Go.ChangeShapes Go.WideShapes Go.Deep
section
def g0 (W : World) : Gh := { B := W.heap.size, w0 := W, st := fun b => match W.heap[b]? with | some (.cells c _ _) => c.size | _ => 0, bk := fun _ => none, lg := fun _ _ => none }
theorem rel0 (W : World) : Rel (g0 W) [] W := by
 refine ⟨.refl _ _, Nat.le_refl _, fun b hb => ?_, fun _ _ => rfl, fun _ _ _ => rfl, fun _ => none, ⟨fun id o h => (by simp at h), fun i j b h => (by cases h), fun id b h => (by cases h)⟩⟩
 show (match W.heap[b]? with | some (.cells c _ _) => c.size | _ => 0) = 0
 rw [Array.getElem?_eq_none hb]
theorem stab0 {W : World} {ad : Addr} {k : Nat} {v : Value} (h : W.cell? (ad.add k) = some v) (h1 : v.oneCell' = true) : Stab (g0 W) W ad k v := by
 refine ⟨?_, h, h1⟩
 have e := cell_spot h
 rw [e] at h
 show _ < (match W.heap[(ad.add k).block]? with | some (.cells c _ _) => c.size | _ => 0)
 unfold World.cell? at h
 split at h
 ·rename_i c t f hc
  simp only [Option.isSome_none, Bool.false_eq_true, if_false] at h
  simp only at hc
  rw [hc]
  exact (Array.getElem?_eq_some_iff.1 h).1
 ·cases h
def TyFs (T : TypeId → List MV → Prop) : List Field → List MV → Prop
 | [], l => l = []
 | f :: fs, l => ∃ a b, l = a ++ b ∧ T f.type a ∧ TyFs T fs b
def ElF (P : Program) (e : TypeId) (x : MV) : Prop := match P.underlying e with | some (.struct _) => x = .agg x.cells | _ => [x] = x.cells
def TyM (P : Program) : Nat → TypeId → List MV → Prop
 | 0, _, _ => False
 | n + 1, t, l =>
  match P.underlying t with
  | some (.int k) => ∃ v, l = [.int k v] ∧ (Lit.int k v).wf = true
  | some .bool => ∃ b, l = [.bool b]
  | some .string => ∃ s, l = [.str s] ∧ s.size ≤ maxLen
  | some (.slice e) => ∃ xs, l = [.lst none (P.cellsOf e) xs] ∧ ∀ x ∈ xs, x.cells.length = P.cellsOf e ∧ TyM P n e x.cells ∧ ElF P e x
  | some (.struct fs) => TyFs (TyM P n) fs.toList l
  | _ => False
def contig (P : Program) (size : Nat) : List Field → Nat → Bool
 | [], off => Nat.beq off size
 | f :: fs, off => Nat.beq f.offset off && contig P size fs (off + P.cellsOf f.type)
def okTypes (P : Program) (ts : List TypeId) : Bool :=
 ts.all fun t => match P.underlying t with
  | some (.int _) | some .bool | some .string => true
  | some (.slice e) => natMem e ts && (match P.underlying e with | some (.struct _) => true | _ => Nat.beq (P.cellsOf e) 1)
  | some (.struct fs) => fs.toList.all (fun f => natMem f.type ts) && contig P (P.cellsOf t) fs.toList 0
  | _ => false
mutual
def szM : MV → Nat
 | .str s => s.data.toList.length + 1
 | .lst _ _ xs => szMs xs + 1
 | .agg l => szMs l + 1
 | _ => 1
def szMs : List MV → Nat
 | [] => 0
 | x :: r => szM x + szMs r
end
theorem szMs_append : ∀ a b : List MV, szMs (a ++ b) = szMs a + szMs b
 | [], b => by simp [szMs]
 | x :: a, b => by rw [List.cons_append, szMs, szMs, szMs_append a b]; omega
theorem rds_of_fields {P : Program} {W : World} {T : TypeId → List MV → Prop} {cs : List Value} {size : Nat} (hlen : cs.length = size) : ∀ (fs : List Field) (off : Nat) (zs : List Nat), contig P size fs off = true →
  (∀ (i : Nat) (f : Field), fs[i]? = some f → ∃ l, Rds (g0 W) W l ((cs.drop f.offset).take (P.cellsOf f.type)) ∧ T f.type l ∧ l.length = P.cellsOf f.type ∧ (∀ y ∈ l, y.one = true) ∧ szMs l ≤ zs.getD i 0) → ∃ l, Rds (g0 W) W l (cs.drop off) ∧ TyFs T fs l ∧ (∀ y ∈ l, y.one = true) ∧ szMs l ≤ zs.sum
 | [], off, zs, hc, _ => by
  have := Nat.eq_of_beq_eq_true hc
  refine ⟨[], ?_, rfl, (fun y hy => by cases hy), by simp [szMs]⟩
  rw [List.drop_eq_nil_of_le (by omega)]
  exact .nil _ _
 | f :: fs, off, zs, hc, h => by
  simp only [contig, Bool.and_eq_true] at hc
  have ho := Nat.eq_of_beq_eq_true hc.1
  obtain ⟨a, h1, h2, h3, h5, h6⟩ := h 0 f rfl
  obtain ⟨b, k1, k2, k3, k4⟩ := rds_of_fields hlen fs _ zs.tail hc.2 (fun i f' hf' => by
   obtain ⟨l, g1, g2, g3, g4, g5⟩ := h (i + 1) f' (by simpa using hf')
   exact ⟨l, g1, g2, g3, g4, by cases zs <;> simpa using g5⟩)
  refine ⟨a ++ b, ?_, ⟨a, b, rfl, h2, k2⟩, fun y hy => (zV2.1 hy).elim (h5 y) (k3 y), ?_⟩
  ·have e : cs.drop off = (cs.drop off).take (P.cellsOf f.type) ++ cs.drop (off + P.cellsOf f.type) := by
    rw [← List.drop_drop, List.take_append_drop]
   rw [e]
   rw [ho] at h1
   exact h1.append k1
  ·rw [szMs_append]
   cases zs with
   | nil =>
    have h6 : szMs a ≤ 0 := by simpa using h6
    have k4 : szMs b ≤ 0 := by simpa using k4
    simp
    omega
   | cons z zs =>
    have h6 : szMs a ≤ z := by simpa using h6
    have k4 : szMs b ≤ zs.sum := by simpa using k4
    rw [List.sum_cons]
    omega
theorem tyFs_mono {T T' : TypeId → List MV → Prop} (h : ∀ t l, T t l → T' t l) : ∀ (fs : List Field) (l : List MV), TyFs T fs l → TyFs T' fs l
 | [], l, hl => hl
 | f :: fs, l, ⟨a, b, e, h1, h2⟩ => ⟨a, b, e, h _ _ h1, tyFs_mono h fs b h2⟩
theorem tyM_succ {P : Program} : ∀ (n : Nat) (t : TypeId) (l : List MV), TyM P n t l → TyM P (n + 1) t l
 | 0, t, l, h => h.elim
 | n + 1, t, l, h => by
  unfold TyM at h ⊢
  split at h
  ·rename_i k hu; exact h
  ·rename_i hu; exact h
  ·rename_i hu; exact h
  ·rename_i e hu
   obtain ⟨xs, h1, h2⟩ := h
   exact ⟨xs, h1, fun x hx => ⟨(h2 x hx).1, tyM_succ n _ _ (h2 x hx).2.1, (h2 x hx).2.2⟩⟩
  ·rename_i fs hu; exact tyFs_mono (tyM_succ n) _ _ h
  ·exact h.elim
theorem tyM_le {P : Program} {n m : Nat} (h : n ≤ m) {t : TypeId} {l : List MV} (ht : TyM P n t l) : TyM P m t l := by
 obtain ⟨d, rfl⟩ := Nat.le.dest h
 induction d with
 | zero => exact ht
 | succ d ih => exact tyM_succ _ _ _ (ih (by omega))
section
variable {H : Type} {enc : TypeId × Value → H} {P : Program} {W : World} {base : Nat} {spare : Nat → Bool} {held : Bool}
theorem common_bound {α : Type} {p : Nat → α → Prop} (hm : ∀ n m a, n ≤ m → p n a → p m a) : ∀ (l : List α), (∀ a ∈ l, ∃ n, p n a) → ∃ n, ∀ a ∈ l, p n a
 | [], _ => ⟨0, fun a h => by cases h⟩
 | a :: l, h => by
  obtain ⟨n, hn⟩ := h a (zH2 ..)
  obtain ⟨m, hm'⟩ := common_bound hm l (fun b hb => h b (zA2 _ hb))
  refine ⟨max n m, fun b hb => ?_⟩
  rcases List.mem_cons.1 hb with rfl | hb
  ·exact hm _ _ _ (by omega) hn
  ·exact hm _ _ _ (by omega) (hm' b hb)
mutual
def dBulk : DataW H → Nat
 | .lit (.string b) => b.length + 1
 | .slice es _ => dBulkAll es + 1
 | .agg ps => dBulkAll ps + 1
 | _ => 1
def dBulkAll : List (DataW H) → Nat
 | [] => 0
 | d :: r => dBulk d + dBulkAll r
end
theorem dBulkAll_eq : ∀ l : List (DataW H), dBulkAll l = (l.map dBulk).sum
 | [] => rfl
 | d :: r => by rw [dBulkAll, dBulkAll_eq r]; rfl
theorem reads_gen {ts : List TypeId} (hok : okTypes P ts = true) : ∀ (n : Nat) (x : DataW H × List MemPlace) (fuel : Nat) (t : TypeId) (cs : List Value), SizeOf.sizeOf x.1 ≤ n → t ∈ ts → DataW.trod enc P W base spare held fuel t cs = some x →
  ∃ (l : List MV) (m : Nat), Rds (g0 W) W l cs ∧ TyM P m t l ∧ (∀ y ∈ l, y.one = true) ∧ szMs l + (match P.underlying t with | some (.struct _) => 1 | _ => 0) ≤ dBulk x.1 := by
 intro n
 induction n using Nat.strongRecOn with
 | _ n ih =>
 intro x fuel t cs hx ht h
 have hot : (match P.underlying t with
  | some (.int _) | some .bool | some .string => true
  | some (.slice e) => natMem e ts && (match P.underlying e with | some (.struct _) => true | _ => Nat.beq (P.cellsOf e) 1)
  | some (.struct fs) => fs.toList.all (fun f => natMem f.type ts) && contig P (P.cellsOf t) fs.toList 0
  | _ => false) = true := by
  simp only [okTypes, List.all_eq_true] at hok
  exact hok t ht
 split at hot
 ·rename_i k hu
  obtain ⟨v, rfl, rfl, hwf⟩ := DataW.trod_int hu h
  refine ⟨[.int k v], 1, .cons (.int _ _) (.nil _ _), ?_, by simp [MV.one], by rw [hu]; simp [szMs, szM, dBulk]⟩
  unfold TyM
  rw [hu]
  exact ⟨v, rfl, hwf⟩
 ·rename_i hu
  obtain ⟨b, rfl, rfl⟩ := DataW.trod_bool hu h
  refine ⟨[.bool b], 1, .cons (.bool _) (.nil _ _), ?_, by simp [MV.one], by rw [hu]; simp [szMs, szM, dBulk]⟩
  unfold TyM
  rw [hu]
  exact ⟨b, rfl⟩
 ·rename_i hu
  obtain ⟨s, rfl, rfl, hs⟩ := DataW.trod_string hu h
  refine ⟨[.str s], 1, .cons (.str _) (.nil _ _), ?_, by simp [MV.one], by rw [hu]; simp [szMs, szM, dBulk]⟩
  unfold TyM
  rw [hu]
  exact ⟨s, rfl, hs⟩
 ·rename_i e hu
  simp only [Bool.and_eq_true] at hot
  have he : e ∈ ts := natMem_iff.1 hot.1
  rcases open_slice hu h with ⟨rfl, rfl⟩ | ⟨a, len, cap, m, n', D, Pl, rfl, hb, hl, hm, hmm, rfl, hi⟩
  ·refine ⟨[.lst none (P.cellsOf e) []], 1, .cons (Sub.nil _ _ _ _ .lst0) (.nil _ _), ?_, by simp [MV.one], by rw [hu]; simp [szMs, szM, dBulk]⟩
   unfold TyM
   rw [hu]
   exact ⟨[], rfl, fun x hx => by cases hx⟩
  ·have hlm : len ≤ m := by rw [hmm]; split <;> omega
   have hel : ∀ i, i < len → ∃ (l : List MV) (k : Nat) (us : List Value), us.length = P.cellsOf e ∧ Rds (g0 W) W l us ∧ TyM P k e l ∧ ((∀ y ∈ l, y.one = true) ∧ szMs l + (match P.underlying e with | some (.struct _) => 1 | _ => 0) ≤ dBulk (D i)) ∧ ∀ j, j < P.cellsOf e → W.cell? ((a.add (i * P.cellsOf e)).add j) = us[j]? := by
    intro i hil
    obtain ⟨cs', hc, ht'⟩ := hi i (by omega)
    obtain ⟨_, hlen, hcell⟩ := World.cells?_some hc
    have hsz : SizeOf.sizeOf (D i) < n := by
     have hmem : D i ∈ (List.range len).map D := List.mem_map.2 ⟨i, List.mem_range.2 hil, rfl⟩
     have := List.sizeOf_lt_of_mem hmem
     simp only [DataW.slice.sizeOf_spec] at hx
     omega
    obtain ⟨l, k, h1, h2, h3⟩ := ih _ hsz (D i, Pl i) n' e cs' (Nat.le_refl _) he ht'
    exact ⟨l, k, cs', hlen, h1, h2, h3, hcell⟩
   have hall : ∀ (N : Nat), N ≤ len → ∃ (xs : List MV) (us : List Value) (k : Nat), xs.length = N ∧ us.length = N * P.cellsOf e ∧ Rds (g0 W) W (flat xs) us ∧ (∀ y ∈ flat xs, y.one = true) ∧ (∀ x ∈ xs, x.cells.length = P.cellsOf e ∧ TyM P k e x.cells ∧ ElF P e x) ∧
     (∀ j, j < N * P.cellsOf e → W.cell? (a.add j) = us[j]?) ∧ szMs xs ≤ (((List.range N).map D).map dBulk).sum := by
    intro N
    induction N with
    | zero => exact fun _ => ⟨[], [], 0, rfl, by simp, .nil _ _, by simp [flat], by simp, by simp, by simp [szMs]⟩
    | succ N ihN =>
     intro hN
     obtain ⟨xs, us, k, q1, q2, q3, q4, q5, q6, q7⟩ := ihN (by omega)
     obtain ⟨l, k', us', r1, r2, r3, ⟨r4, r6⟩, r5⟩ := hel N (by omega)
     have hll : l.length = P.cellsOf e := by rw [← r2.1, r1]
     obtain ⟨y, hy1, hy2, hy3⟩ : ∃ y : MV, y.cells = l ∧ ElF P e y ∧ szM y ≤ dBulk (D N) := by
      cases hue : P.underlying e with
      | none => 
       have hk1 : P.cellsOf e = 1 := by have := hot.2; rw [hue] at this; exact Nat.eq_of_beq_eq_true this
       match l, hll.trans hk1 with
       | [y], _ =>
        have := r4 y (zH2 ..)
        simp only [ElF, hue]
        rw [hue] at r6
        have r7 : szM y ≤ dBulk (D N) := by simpa [szMs] using r6
        refine ⟨y, ?_, ?_, r7⟩ <;> (cases y <;> first | rfl | (cases this; done))
      | some d =>
       cases d with
       | struct fs =>
        rw [hue] at r6
        exact ⟨.agg l, rfl, by simp only [ElF, hue]; rfl, r6⟩
       | _ =>
        have hk1 : P.cellsOf e = 1 := by have := hot.2; rw [hue] at this; exact Nat.eq_of_beq_eq_true this
        match l, hll.trans hk1 with
        | [y], _ =>
         have := r4 y (zH2 ..)
         simp only [ElF, hue]
         rw [hue] at r6
         have r7 : szM y ≤ dBulk (D N) := by simpa [szMs] using r6
         refine ⟨y, ?_, ?_, r7⟩ <;> (cases y <;> first | rfl | (cases this; done))
     refine ⟨xs ++ [y], us ++ us', max k k', by simp [q1], by rw [zG, q2, r1, Nat.add_mul]; omega, ?_, ?_, ?_, ?_, by rw [szMs_append, List.range_succ, List.map_append, List.map_append, List.sum_append, show ((([N] : List Nat).map D).map dBulk).sum = dBulk (D N) by simp, show szMs [y] = szM y by simp [szMs]]; omega⟩
     ·rw [flat_append]
      refine q3.append ?_
      simp only [flat, List.flatMap_cons, List.flatMap_nil, List.append_nil, hy1]
      exact r2
     ·intro z hz
      rw [flat_append, zV2] at hz
      rcases hz with hz | hz
      ·exact q4 z hz
      ·simp only [flat, List.flatMap_cons, List.flatMap_nil, List.append_nil, hy1] at hz
       exact r4 z hz
     ·intro x hx
      rcases zV2.1 hx with hx | hx
      ·exact ⟨(q5 x hx).1, tyM_le (by omega) (q5 x hx).2.1, (q5 x hx).2.2⟩
      ·simp at hx
       subst hx
       rw [hy1]
       exact ⟨hll, tyM_le (by omega) r3, hy2⟩
     ·intro j hj
      rw [Nat.add_mul, Nat.one_mul] at hj
      by_cases hjl : j < N * P.cellsOf e
      ·rw [List.getElem?_append_left (by omega)]
       exact q6 j hjl
      ·rw [List.getElem?_append_right (by omega), q2, ← r5 (j - N * P.cellsOf e) (by omega), Go.MV.add_add]
       congr 2
       omega
   obtain ⟨xs, us, k, q1, q2, q3, q4, q5, q6, q7⟩ := hall len (Nat.le_refl _)
   refine ⟨[.lst none (P.cellsOf e) xs], k + 1, .cons (.lst' q1 hl hm (fun x hx => (q5 x hx).1) q3 (fun j u hu => ⟨a, rfl, stab0 ?_ ?_⟩) (fun t ht => by cases ht)) (.nil _ _), ?_, by simp [MV.one], by rw [hu]; simp only [szMs, szM, dBulk, dBulkAll_eq]; omega⟩
   ·have hj : j < us.length := (zD.1 hu).1
    rw [q6 j (by omega)]
    exact hu
   ·have hj : j < us.length := (zD.1 hu).1
    have hjf : j < (flat xs).length := by rw [← q3.1]; exact hj
    exact one_cell (q3.2 j _ u (zC hjf) hu) (q4 _ (List.getElem_mem hjf))
   ·unfold TyM
    rw [hu]
    exact ⟨xs, rfl, q5⟩
 ·rename_i fs hu
  simp only [Bool.and_eq_true, List.all_eq_true] at hot
  obtain ⟨xs, n', rfl, rfl, hlen, hxl, hf⟩ := DataW.trod_struct hu h
  have hfld : ∀ (i : Nat) (f : Field), fs.toList[i]? = some f → ∃ (k : Nat) (l : List MV), Rds (g0 W) W l ((cs.drop f.offset).take (P.cellsOf f.type)) ∧ TyM P k f.type l ∧ (∀ y ∈ l, y.one = true) ∧ szMs l ≤ ((xs.map (·.1)).map dBulk).getD i 0 := by
   intro i f hi
   have hfm := zW hi
   have hi' : fs[i]? = some f := by simpa using hi
   have hilt : i < xs.length := by rw [hxl]; exact (Array.getElem?_eq_some_iff.1 hi').1
   have htr := hf i f hi'
   rw [zC hilt] at htr
   have hsz : SizeOf.sizeOf xs[i].1 < n := by
    have hmem : xs[i].1 ∈ xs.map (·.1) := List.mem_map.2 ⟨xs[i], List.getElem_mem hilt, rfl⟩
    have := List.sizeOf_lt_of_mem hmem
    simp only [DataW.agg.sizeOf_spec] at hx
    omega
   obtain ⟨l, k, h1, h2, h3⟩ := ih _ hsz xs[i] n' f.type _ (Nat.le_refl _) (natMem_iff.1 (hot.1 f hfm)) htr
   refine ⟨k, l, h1, h2, h3.1, ?_⟩
   have : ((xs.map (·.1)).map dBulk).getD i 0 = dBulk xs[i].1 := by simp [hilt]
   rw [this]
   have := h3.2
   omega
  obtain ⟨K, hK⟩ := common_bound (p := fun k (q : Nat × Field) => ∃ l : List MV, Rds (g0 W) W l ((cs.drop q.2.offset).take (P.cellsOf q.2.type)) ∧ TyM P k q.2.type l ∧ (∀ y ∈ l, y.one = true) ∧ szMs l ≤ ((xs.map (·.1)).map dBulk).getD q.1 0) (fun a b f hab ⟨l, h1, h2, h3⟩ => ⟨l, h1, tyM_le hab h2, h3⟩) (fs.toList.zipIdx.map fun p => (p.2, p.1)) (fun q hq => by
   obtain ⟨p, hp, rfl⟩ := List.mem_map.1 hq
   exact hfld p.2 p.1 (List.mem_zipIdx_iff_getElem?.1 hp))
  replace hK : ∀ (i : Nat) (f : Field), fs.toList[i]? = some f → ∃ l : List MV, Rds (g0 W) W l ((cs.drop f.offset).take (P.cellsOf f.type)) ∧ TyM P K f.type l ∧ (∀ y ∈ l, y.one = true) ∧ szMs l ≤ ((xs.map (·.1)).map dBulk).getD i 0 := fun i f hi => hK (i, f) (List.mem_map.2 ⟨(f, i), List.mem_zipIdx_iff_getElem?.2 hi, rfl⟩)
  have hcont := hot.2
  have hlens : ∀ (gs : List Field) (off : Nat), contig P (P.cellsOf t) gs off = true → off ≤ P.cellsOf t ∧ ∀ f ∈ gs, f.offset + P.cellsOf f.type ≤ P.cellsOf t := by
   intro gs
   induction gs with
   | nil => exact fun off hc => ⟨Nat.le_of_eq (Nat.eq_of_beq_eq_true hc), fun f hf => by cases hf⟩
   | cons f gs ihg =>
    intro off hc
    simp only [contig, Bool.and_eq_true] at hc
    have ho := Nat.eq_of_beq_eq_true hc.1
    obtain ⟨h1, h2⟩ := ihg _ hc.2
    refine ⟨by omega, fun f' hf' => ?_⟩
    rcases List.mem_cons.1 hf' with rfl | hf'
    ·omega
    ·exact h2 f' hf'
  obtain ⟨l, h1, h2, h3⟩ := rds_of_fields (P := P) (W := W) (T := TyM P K) hlen fs.toList 0 ((xs.map (·.1)).map dBulk) hcont (fun i f hi => by
   obtain ⟨l, h1, h2, h3⟩ := hK i f hi
   refine ⟨l, h1, h2, ?_, h3⟩
   have := (hlens _ _ hcont).2 f (zW hi)
   rw [← h1.1, List.length_take, List.length_drop, hlen]
   omega)
  refine ⟨l, K + 1, by simpa using h1, ?_, h3.1, by rw [hu]; simp only [dBulk, dBulkAll_eq]; have := h3.2; omega⟩
  unfold TyM
  rw [hu]
  exact h2
 ·cases hot
end
section
variable {H : Type} {enc : TypeId × Value → H} {P : Program} {W : World} {base b0 : Nat} {spare : Nat → Bool} {held : Bool} {r : Reach}
theorem arg_one {ts : List TypeId} (hok : okTypes P ts = true) {t : TypeId} (ht : t ∈ ts) {v : Value} {d : DataW H} {p : List MemPlace} (hv : v.cells = #[v]) (h : DataW.Trod enc P W base spare held t v d p) :
  ∃ (l : List MV) (m : Nat), Rds (g0 W) W l [v] ∧ TyM P m t l := by
 obtain ⟨fuel, hf⟩ := h
 rw [hv] at hf
 obtain ⟨l, m, h1, h2, _⟩ := reads_gen hok _ _ _ _ _ (Nat.le_refl _) ht hf
 exact ⟨l, m, h1, h2⟩
end
theorem law_calls {P : Program} {f : FuncId} {xs : List MV} {W : World} {vs : List Value} (h : MCalls P f xs [] fun v σ' => v = .bool true ∧ σ' = []) (hr : Rds (g0 W) W xs vs) : Calls P f vs.toArray W fun e w' => e = .returned (.bool true) ∧ Below W.heap.size W w' := by
 refine (callsIn_wide.1 (h (g0 W) W vs (rel0 W) hr)).mono ?_
 rintro e w' ⟨v, rfl, x, σ', g', ⟨rfl, rfl⟩, hrel, hrd, hle⟩
 rw [hrd.inv_bool]
 have := hrel.below
 rw [hle.B, hle.w0] at this
 exact ⟨rfl, this⟩
end
end Go.MV
namespace Go.MV
open Go Go.RowKit Go.WideShapes Go.ChangeShapes
section
section
variable {H : Type} {enc : TypeId × Value → H} {P : Program} {W : World} {base b0 : Nat} {spare : Nat → Bool} {held : Bool} {r : Reach} {ts : List TypeId} {t : TypeId} {v : Value} {d : DataW H} {p : List MemPlace}
theorem tyM_intK {k : IntKind} (hu : P.underlying t = some (.int k)) {n : Nat} {l : List MV} (h : TyM P n t l) : ∃ v, l = [.int k v] ∧ (Lit.int k v).wf = true := by
 cases n with
 | zero => exact h.elim
 | succ n => unfold TyM at h; rw [hu] at h; exact h
theorem tyM_bool (hu : P.underlying t = some .bool) {n : Nat} {l : List MV} (h : TyM P n t l) : ∃ b, l = [.bool b] := by
 cases n with
 | zero => exact h.elim
 | succ n => unfold TyM at h; rw [hu] at h; exact h
theorem rd_of_rds {g : Gh} {w : World} {m : MV} {v : Value} (h : Rds g w [m] [v]) : Rd g w m v := h.2 0 _ _ rfl rfl
theorem arg_int {k : IntKind} (hok : okTypes P ts = true) (ht : t ∈ ts) (hu : P.underlying t = some (.int k)) (hv : Value.okWide P W r b0 t v) (h : DataW.Trod enc P W base spare held t v d p) : ∃ n, Rd (g0 W) W (.int k n) v ∧ (Lit.int k n).wf = true := by
 obtain ⟨n, rfl⟩ := okWide_int hu hv
 obtain ⟨l, m, h1, h2⟩ := arg_one hok ht rfl h
 obtain ⟨n', rfl, hw⟩ := tyM_intK hu h2
 exact ⟨n', rd_of_rds h1, hw⟩
theorem arg_bool (hok : okTypes P ts = true) (ht : t ∈ ts) (hu : P.underlying t = some .bool) (hv : Value.okWide P W r b0 t v) (h : DataW.Trod enc P W base spare held t v d p) : ∃ n, Rd (g0 W) W (.bool n) v := by
 obtain ⟨n, rfl⟩ := okWide_bool hu hv
 obtain ⟨l, m, h1, h2⟩ := arg_one hok ht rfl h
 obtain ⟨n', rfl⟩ := tyM_bool hu h2
 exact ⟨n', rd_of_rds h1⟩
theorem wf_u8 {n : Int} (h : (Lit.int .u8 n).wf = true) : ∃ m : Nat, n = (m : Int) ∧ m ≤ 255 := by
 simp [Lit.wf, IntKind.min, IntKind.max, IntKind.signed, IntKind.bits] at h
 exact ⟨n.toNat, by omega, by omega⟩
end
end
end Go.MV
namespace Go.Proofs.YtciimaabeabkdaaGreatDoor
open Go Go.MV
theorem sz_mk (n m : Int) (s : List Bs) (c : List (List Tk)) (w : List Val) : szM (encV (.mk n m s c w)) = szMs (s.map encX) + szMs (c.map encC) + szMs (encVs w) + 6 := by
 simp [encV, szM, szMs]
 omega
end Go.Proofs.YtciimaabeabkdaaGreatDoor
namespace Go.Proofs.YtciimaabeabkdaaGreatDoor
open Go Go.MV Go.RowKit
theorem numB_one {m : Nat} (h : m < 128) : (numB m).length = 1 := by rw [numB_lo h]; rfl
theorem numB_ten {m : Nat} (h : m < 18446744073709551616) : (numB m).length ≤ 10 := zP2 9 m (by omega)
theorem numB_pos1 (m : Nat) : 1 ≤ (numB m).length := by
 rw [numB]
 split <;> simp
theorem sz_text (x : Bs) : szM (encX x) = x.length + 1 := by simp [encX, szM, bs]
theorem text_len {x : Bs} (h : x.length ≤ 16) : (textB x).length = szM (encX x) := by
 rw [sz_text, textB, zG, numB_one (by omega)]
 omega
theorem texts_len : ∀ {s : List Bs}, (∀ x ∈ s, x.length ≤ 16) → (s.flatMap textB).length = szMs (s.map encX)
 | [], _ => rfl
 | x :: s, h => by
  rw [List.flatMap_cons, zG, List.map_cons, szMs, text_len (h x (.head _)), texts_len fun y hy => h y (.tail _ hy)]
theorem clk_len {c : List Tk} (h : ∀ t ∈ c, (0 ≤ t.1 ∧ t.1 ≤ 1000000) ∧ okTk t) : (c.flatMap tkB).length ≤ 13 * c.length := by
 induction c with
 | nil => simp
 | cons t c ih =>
  have h1 := ih fun x hx => h x (.tail _ hx)
  obtain ⟨⟨a, b⟩, e, f⟩ := h t (.head _)
  have h2 := numB_len (show t.1.toNat < 2097152 by omega)
  have h3 := numB_ten (show t.2.toNat < 18446744073709551616 by omega)
  rw [List.flatMap_cons, zG, zF0, tkB, zG]
  omega
theorem sz_ticks : ∀ (c : List Tk), szMs (c.map encT) = 3 * c.length
 | [] => rfl
 | t :: c => by rw [List.map_cons, szMs, sz_ticks c, show szM (encT t) = 3 from rfl, zF0]; omega
theorem sz_clk (c : List Tk) : szM (encC c) = 3 * c.length + 1 := by rw [encC, szM, sz_ticks]
theorem clkB_len {c : List Tk} (h : isClockF c = true) (ho : ∀ t ∈ c, okTk t) : 1 ≤ (rowB tkB c).length ∧ (rowB tkB c).length ≤ 5 * szM (encC c) := by
 obtain ⟨h1, h2⟩ := clk_who h
 have h3 := clk_len (c := c) fun t ht => ⟨h2 t ht, ho t ht⟩
 rw [rowB, zG, numB_one (by omega), sz_clk]
 omega
theorem ents_len {E : Val → Bs} : ∀ {s : List Bs} {w : List Val}, (∀ x ∈ s, x.length ≤ 16) → (∀ x ∈ w, (E x).length ≤ 5 * szM (encV x)) → ((s.zip w).flatMap (entB E)).length ≤ szMs (s.map encX) + 5 * szMs (encVs w)
 | [], w, _, _ => by simp
 | x :: s, [], _, _ => by simp
 | x :: s, y :: w, h1, h2 => by
  have h3 := ents_len (fun z hz => h1 z (.tail _ hz)) (fun z hz => h2 z (.tail _ hz))
  have h4 := h2 y (.head _)
  rw [List.zip_cons_cons, List.flatMap_cons, zG, entB, zG]
  dsimp only
  rw [text_len (h1 x (.head _)), List.map_cons, szMs, encVs, szMs]
  omega
theorem sibs_len {E : Val → Bs} : ∀ {c : List (List Tk)} {w : List Val}, (∀ x ∈ c, (rowB tkB x).length ≤ 5 * szM (encC x)) → (∀ x ∈ w, (E x).length ≤ 5 * szM (encV x)) → ((c.zip w).flatMap (sibB E)).length ≤ 5 * szMs (c.map encC) + 5 * szMs (encVs w)
 | [], w, _, _ => by simp
 | x :: s, [], _, _ => by simp
 | x :: s, y :: w, h1, h2 => by
  have h3 := sibs_len (fun z hz => h1 z (.tail _ hz)) (fun z hz => h2 z (.tail _ hz))
  have h4 := h2 y (.head _)
  have h5 := h1 x (.head _)
  rw [List.zip_cons_cons, List.flatMap_cons, zG, sibB, zG]
  dsimp only
  rw [List.map_cons, szMs, encVs, szMs]
  omega
theorem valB_len : ∀ (d : Nat) (s : Sch), isF d s = true → ∀ v, isOk s v → 1 ≤ (valB s v).length ∧ (valB s v).length ≤ 5 * szM (encV v)
 | 0, s, h, v, _ => by simp [isF] at h
 | d + 1, .mk k ins, h, .mk n m s c w, hv => by
  simp only [isF, Bool.and_eq_true, beq_iff_eq, List.all_eq_true] at h
  have ho := hv.2
  have hov := ok_vals hv.2
  rw [okV] at ho
  rw [sz_mk]
  rcases kinds h.1 with ⟨hk, rfl⟩ | ⟨rfl, rfl⟩ | ⟨rfl, rfl⟩ | ⟨rfl, rfl⟩ | ⟨s1, rfl, rfl⟩ | ⟨s1, rfl, rfl⟩ | ⟨s1, s2, rfl, rfl⟩
  ·have h1 := numB_ten (show n.toNat < 18446744073709551616 by omega)
   have h2 := numB_pos1 n.toNat
   rw [valB, kindB, if_pos (by omega), flatB, if_neg (by omega)]
   omega
  ·obtain ⟨rfl, rfl, rfl, rfl, h1, h2⟩ := bare_set hv.1
   rw [valB, kindB, if_pos (by omega), flatB, if_pos rfl, rowB, zG, numB_one (by omega), texts_len h2]
   omega
  ·have h1 := numB_ten (show n.toNat < 18446744073709551616 by omega)
   have h2 := numB_ten (show m.toNat < 18446744073709551616 by omega)
   rw [valB, kindB, if_neg (by omega), if_neg (by omega), if_neg (by omega), if_pos rfl]
   obtain ⟨rfl, rfl, ⟨rfl, rfl, rfl⟩ | ⟨t, rfl, ht⟩⟩ := bare_last hv.1
   ·rw [lastB, Val.sv, zG, numB_one (by simp)]
    simp only [List.flatMap_nil, List.length_nil]
    omega
   ·have h3 := text_len ht
    rw [lastB, zG, Val.sv, numB_one (by simp), List.flatMap_cons, List.flatMap_nil, List.append_nil, zG, zG, h3, Val.nv, Val.mv]
    simp only [List.map_cons, List.map_nil, szMs]
    omega
  ·rw [valB, kindB, if_neg (by omega), if_neg (by omega), if_neg (by omega), if_neg (by omega), if_pos rfl, oneB]
   obtain ⟨rfl, rfl, rfl, rfl, rfl | ⟨x, rfl, hx, hc⟩⟩ := bare_one hv.1
   ·rw [Val.cv, List.headD_nil, rowB, zG, numB_one (by simp)]
    simp only [List.flatMap_nil, List.length_nil]
    omega
   ·have := clkB_len hc (ho.2.2.1 x (by simp))
    simp only [Val.cv, List.headD_cons, List.map_cons, List.map_nil, szMs]
    omega
  ·obtain ⟨rfl, rfl, rfl, hl, hs, hw⟩ := bare_map hv.1
   have hE := ents_len (E := valB s1) hs.2 (w := w) fun x hx => (valB_len d s1 (h.2 s1 (by simp)) x ⟨hw x hx, hov x hx⟩).2
   rw [valB, kindB, if_neg (by omega), if_pos rfl, valBs, List.headD_cons, mapB, entsB, zG, Val.sv, Val.vv, zip_len hl, numB_one (by omega)]
   omega
  ·obtain ⟨rfl, rfl, rfl, hl, hs, hw⟩ := bare_sibs hv.1
   have hE := sibs_len (E := valB s1) (c := c) (fun x hx => (clkB_len (hs.2 x hx) (ho.2.2.1 x hx)).2) (w := w) fun x hx => (valB_len d s1 (h.2 s1 (by simp)) x ⟨hw x hx, hov x hx⟩).2
   rw [valB, kindB, if_neg (by omega), if_neg (by omega), if_neg (by omega), if_neg (by omega), if_neg (by omega), valBs, List.headD_cons, sibsB, rowB, zG, Val.cv, Val.vv, zip_len hl, numB_one (by omega)]
   omega
  ·obtain ⟨rfl, rfl, rfl, rfl, x, y, rfl, q1, q2⟩ := bare_pair hv.1
   have hE := valB_len d s1 (h.2 s1 (by simp)) x ⟨q1, hov x (by simp)⟩
   have hF := valB_len d s2 (h.2 s2 (by simp)) y ⟨q2, hov y (by simp)⟩
   rw [valB, kindB, if_neg (by omega), if_neg (by omega), if_pos rfl, valBs, valBs, List.headD_cons, List.tail_cons, List.headD_cons, pairB, zG]
   simp only [Val.vv, List.headD_cons, List.tail_cons, encVs, szMs]
   omega
end Go.Proofs.YtciimaabeabkdaaGreatDoor
