/-
  Texts on which the proof of PostOrders leans: part 6.
-/
import Derived.Test.YtciimaabeabkdaaGreatDoorPostOrdersE
set_option linter.unusedVariables false
set_option linter.unusedSimpArgs false
set_option maxRecDepth 20000
set_option maxHeartbeats 8000000
namespace Go.Proofs.YtciimaabeabkdaaGreatDoor
open Go Go.MV Go.RowKit
theorem flatG_take {α : Type} {G : α → Bs} {s : List α} {i : Nat} {x : α} (h : s[i]? = some x) : (s.take (i + 1)).flatMap G = (s.take i).flatMap G ++ G x := by
 rw [List.take_add_one, h, List.flatMap_append]
 simp
theorem flatG_le {α : Type} {G : α → Bs} {s : List α} {i : Nat} {x : α} (h : s[i]? = some x) : ((s.take i).flatMap G).length + (G x).length ≤ (s.flatMap G).length := by
 have h1 : (s.take (i + 1)).flatMap G ++ (s.drop (i + 1)).flatMap G = s.flatMap G := by rw [← List.flatMap_append, List.take_append_drop]
 have h2 := congrArg List.length h1
 rw [flatG_take h] at h2
 simp only [zG] at h2
 omega
theorem WritesN.nx {k : FuncId} {id t : Nat} {xs : List MV} {s l m : Bs} {S : MS} (hw : WritesN k id t xs s) (h : PrAt S id t l) (hl : m.length + s.length ≤ 9000000) (L : MS) : MCalls Tryz.prog k xs (pr S id t m ++ L) fun v σ' => v = .tup [] ∧ σ' = pr S id t (m ++ s) ++ L :=
 (hw.sl (h.pr m) hl L).mono fun v σ' hv => ⟨hv.1, hv.2.trans (by rw [pr_pr h])⟩
theorem Writes.nx {k : FuncId} {id t : Nat} {xs : List MV} {s l m : Bs} {S : MS} (hw : Writes k id t xs s) (h : PrAt S id t l) (hl : m.length + s.length ≤ 8000000) (L : MS) : MCalls Tryz.prog k xs (pr S id t m ++ L) fun v σ' => v = .tup [] ∧ σ' = pr S id t (m ++ s) ++ L :=
 (hw.sl (h.pr m) hl L).mono fun v σ' hv => ⟨hv.1, hv.2.trans (by rw [pr_pr h])⟩
theorem write_nx {S : MS} {id t : Nat} {l m : Bs} (h : PrAt S id t l) (s : Bs) (hlen : m.length + s.length ≤ 10000000) (L : MS) : MCalls Tryz.prog 125 [.ref id 0, .str (bs s)] (pr S id t m ++ L) fun v σ' => v = .tup [.int .i64 (s.length : Int), .iface0] ∧ σ' = pr S id t (m ++ s) ++ L :=
 (write_at (h.pr m) s hlen L).mono fun v σ' hv => ⟨hv.1, hv.2.trans (by rw [pr_pr h])⟩
theorem clock_sl (c : List Tk) (hc : c.length ≤ 1000) (hc0 : ∀ t ∈ c, okW t) (id t : Nat) {l : Bs} {S : MS} (h : PrAt S id t l) (hl : l.length ≤ 8000000) (L : MS) : MCalls Tryz.prog 195 [.ref id 0, encC c] (S ++ L) fun v σ' => v = .tup [] ∧ σ' = pr S id t (l ++ rowB tkB c) ++ L :=
 (clock_writes c hc hc0 id t l _ (h.sl L) hl).mono fun v σ' hv => ⟨hv.1, hv.2.trans (by rw [pr_sl h])⟩
theorem clock_nx (c : List Tk) (hc : c.length ≤ 1000) (hc0 : ∀ t ∈ c, okW t) (id t : Nat) {l m : Bs} {S : MS} (h : PrAt S id t l) (hl : m.length ≤ 8000000) (L : MS) : MCalls Tryz.prog 195 [.ref id 0, encC c] (pr S id t m ++ L) fun v σ' => v = .tup [] ∧ σ' = pr S id t (m ++ rowB tkB c) ++ L :=
 (clock_sl c hc hc0 id t (h.pr m) hl L).mono fun v σ' hv => ⟨hv.1, hv.2.trans (by rw [pr_pr h])⟩
theorem pair_writes (k1 k2 : Int) (i1 i2 : List Sch) (B1 B2 : Bs) (n m : Int) (s : List Bs) (c : List (List Tk)) (x y : Val) (id t : Nat) (hE : Writes 153 id t [.ref id 0, encS (.mk k1 i1), encV x] B1) (hF : Writes 153 id t [.ref id 0, encS (.mk k2 i2), encV y] B2) : Writes 153 id t [.ref id 0, encS (.mk 5 [.mk k1 i1, .mk k2 i2]), encV (.mk n m s c [x, y])] (B1 ++ B2) := by
 intro l S h hl
 obtain ⟨n8, m8, s8, c8, w8⟩ := x
 obtain ⟨n9, m9, s9, c9, w9⟩ := y
 refine zM zT4 V zZ4 (zA V) ?_
 refine zW0 fun _ hcl => ?_
 rw [List.append_nil] at hcl
 rw [zG] at hl
 refine zB <| qR V <| qB V V V V V <| qB V V V V V <| qN <| zB <| qR V <| qF V V V zJ2 <| qO V <| zL0 (by simp [zU2]) V V V ta3 V ?_
 refine qN <| zX <| zB <| zB <| qR V <| qC V V V V V <| qA V V V <| qN <| zL V (V) <| qR V <| qC V V V V V <| qA V V V <| qN <| zL V (V) <| zB <| zB <| qR V <| qC V V V V V <| qA V V V <| qN <| zL V (V) <| qR V <| qC V V V V V ?_
 refine qA V V V <| qN <| zL V (V) <| zB <| qR V <| qC V V V V V <| qA V V V <| qN <| zT V (V) <| zB ?_
 refine zX0 [9] [_, pr S id t (l ++ B1) ++ [.cells (encS (.mk 5 [.mk k1 i1, .mk k2 i2])).cells, .cells (encV (.mk n m s c [.mk n8 m8 s8 c8 w8, .mk n9 m9 s9 c9 w9])).cells]] mo (by decide) V V V V ?_
 refine dO V V V (zY V V Vv) <| zU V V (.cons (zE V V zS3 Vv) (.cons (zE V V zS3 Vv) (.nil))) <| zU V V (.cons (zL0 (by simp [zU2]) V V V ta51 V Vv) (.cons (zL0 (by simp [zU2]) V V V ta51 V Vv) (.nil))) ?_
 refine zU V V (.cons (zK V zQ0 sz53 (by decide) V V V (show _ = some (encS (.mk k1 i1)) from V) Vv) (.cons (zK V zQ0 sz53 (by decide) V V V (show _ = some (encS (.mk k1 i1)) from V) Vv) (.nil))) ?_
 refine dO V V V (zO V V ta53 V Vv) <| zU V V (.cons (zE V V zI2 Vv) (.cons (zE V V zI2 Vv) (.nil))) <| zU V V (.cons (zL0 (by simp [zU2]) V V V ta25 V Vv) (.cons (zL0 (by simp [zU2]) V V V ta25 V Vv) (.nil))) ?_
 refine zU V V (.cons (zK V zI0 sz27 (by decide) V V V (show _ = some (encV (.mk n8 m8 s8 c8 w8)) from V) Vv) (.cons (zK V zI0 sz27 (by decide) V V V (show _ = some (encV (.mk n8 m8 s8 c8 w8)) from V) Vv) (.nil))) ?_
 refine dO V V V (zO V V ta27 V Vv) <| zB1 V V V V (zD1 V V V co153 ((hE.sl h (by omega) _))) ?_
 refine zP0 ?_
 refine zX0 [9] [_, pr S id t (l ++ B1 ++ B2) ++ [.cells (encS (.mk 5 [.mk k1 i1, .mk k2 i2])).cells, .cells (encV (.mk n m s c [.mk n8 m8 s8 c8 w8, .mk n9 m9 s9 c9 w9])).cells]] mo (by decide) V V V V ?_
 refine dO V V V (zY V V Vv) <| zU V V (.cons (zE V V zS3 Vv) (.cons (zE V V zS3 Vv) (.nil))) <| zU V V (.cons (zL0 (by simp [zU2]) V V V ta51 V Vv) (.cons (zL0 (by simp [zU2]) V V V ta51 V Vv) (.nil))) ?_
 refine zU V V (.cons (zK V zQ0 sz53 (by decide) V V V (show _ = some (encS (.mk k2 i2)) from V) Vv) (.cons (zK V zQ0 sz53 (by decide) V V V (show _ = some (encS (.mk k2 i2)) from V) Vv) (.nil))) ?_
 refine dO V V V (zO V V ta53 V Vv) <| zU V V (.cons (zE V V zI2 Vv) (.cons (zE V V zI2 Vv) (.nil))) <| zU V V (.cons (zL0 (by simp [zU2]) V V V ta25 V Vv) (.cons (zL0 (by simp [zU2]) V V V ta25 V Vv) (.nil))) ?_
 refine zU V V (.cons (zK V zI0 sz27 (by decide) V V V (show _ = some (encV (.mk n9 m9 s9 c9 w9)) from V) Vv) (.cons (zK V zI0 sz27 (by decide) V V V (show _ = some (encV (.mk n9 m9 s9 c9 w9)) from V) Vv) (.nil))) ?_
 refine dO V V V (zO V V ta27 V Vv) <| zB1 V V V V (zD1 V V V co153 (hF.nx h (by rw [zG]; omega) _)) ?_
 refine zP0 ?_
 exact zB2 (by simp) zN4 (by rw [zU2]; exact Nat.le_refl _) (cls_pr hcl h.idl h.tl) ⟨rfl, by rw [zN]⟩
theorem last_writes (ins : List Sch) (n m : Nat) (hn : n < 18446744073709551616) (hm : m < 18446744073709551616) (s : List Bs) (c : List (List Tk)) (w : List Val) (hsl : s.length ≤ 1000) (hs0 : ∀ x ∈ s, x.length ≤ 1000) (id t : Nat) : Writes 153 id t [.ref id 0, encS (.mk 6 ins), encV (.mk (n : Int) (m : Int) s c w)] (numB s.length ++ s.flatMap (fun x => numB n ++ (numB m ++ textB x))) := by
 intro l S h hl
 refine zM zT4 V zZ4 (zA V) ?_
 refine zW0 fun _ hcl => ?_
 rw [List.append_nil] at hcl
 have hlen' : s.length ≤ maxLen := by simp only [maxLen]; omega
 have hnb := zP2 9 s.length (by omega)
 have hn1 := numB_ten hn
 have hm1 := numB_ten hm
 rw [zG] at hl
 refine zB <| qR V <| qB V V V V V <| qB V V V V V <| qN <| zB <| qR V <| qF V V V zJ2 <| qO V <| zL0 (by simp [zU2]) V V V ta3 V ?_
 refine qN <| zX <| zB <| zB <| qR V <| qC V V V V V <| qA V V V <| qN <| zL V (V) <| qR V <| qC V V V V V <| qA V V V <| qN <| zL V (V) <| zB <| zB <| qR V <| qC V V V V V <| qA V V V <| qN <| zL V (V) <| qR V <| qC V V V V V ?_
 refine qA V V V <| qN <| zL V (V) <| zB <| qR V <| qC V V V V V <| qA V V V <| qN <| zL V (V) <| zB <| qR V <| qC V V V V V <| qA V V V <| qN <| zT V (V) <| zB <| qR V <| qM V V V <| qF V V V zC3 <| qO V <| zL0 (by simp [zU2]) V V V ta23 V ?_
 refine qE V V zB0 V <| qO V <| zX1 V zH1 zZ0 V (zX2 (by rw [zF]; omega)) ?_
 rw [zF]
 refine qX V V V V co194 ((zY4 id t s.length (by omega)).sl h (by omega) _) ?_
 refine qN <| zB <| qR V <| qF V V V zC3 <| qO V <| zL0 (by simp [zU2]) V V V ta23 V ?_
 refine qE V V zB0 V <| qM V V V <| qN <| zX ?_
 show mwp _ _ _ _ _ _ _ (([] : MS) ++ (pr S id t (l ++ numB s.length) ++ [.cells (encS (.mk 6 ins)).cells, .cells (encV (.mk (n : Int) (m : Int) s c w)).cells]))
 refine zS1 (α := Nat) [(0, _), (5, _), (120, _), (121, _)] (fun i => [(122, .int .i64 (i : Int))]) (fun i => (pr S id t (l ++ numB s.length ++ (s.take i).flatMap (fun x => numB n ++ (numB m ++ textB x))) ++ [.cells (encS (.mk 6 ins)).cells, .cells (encV (.mk (n : Int) (m : Int) s c w)).cells])) (fun i => i ≤ s.length) (fun i => s.length - i) (0) (.keep V (.keep V (.keep V (.keep V (.nil))))) (.keep V (.nil)) (by omega) (by simp) ?_
 rintro i hi
 show mwp _ _ _ _ _ _ _ (pr S id t (l ++ numB s.length ++ (s.take i).flatMap (fun x => numB n ++ (numB m ++ textB x))) ++ [.cells (encS (.mk 6 ins)).cells, .cells (encV (.mk (n : Int) (m : Int) s c w)).cells])
 have hw := h.pr (l ++ numB s.length ++ (s.take i).flatMap (fun x => numB n ++ (numB m ++ textB x)))
 refine zB <| qR V <| qC V V V V V <| qN <| zB ?_
 refine zJ V (fun h123 => ?_) (fun h123 => ?_)
 ·
  have hlt : i < s.length := by simpa using h123
  obtain ⟨x, hs⟩ : ∃ q_, s[i]? = some q_ := ⟨_, zC hlt⟩
  have hx := hs0 x (zW hs)
  have hle := flatG_le (G := (fun x => numB n ++ (numB m ++ textB x))) hs
  simp only [zG] at hle
  have hxl := (numB_len (show x.length < 2097152 by omega)).2
  have hxt : (textB x).length = (numB x.length).length + x.length := by simp [textB]
  refine zQ <| zB <| zX <| zB <| qR V <| qO V <| zK V zB0 sz9 (by decide) V V V (zE1 hs) ?_
  refine qO V <| zO V V ta9 V <| qA V V V <| qN <| zB <| qR V <| qM V V V <| qF V V V zC5 <| qO V <| zL0 (by simp [zU2]) V V V ta22 V ?_
  refine qX V V V V co194 ((zY4 id t n hn).nx h (by simp only [zG]; omega) _) ?_
  refine qN <| zB <| qR V <| qM V V V <| qF V V V zI6 <| qO V <| zL0 (by simp [zU2]) V V V ta22 V ?_
  refine qX V V V V co194 ((zY4 id t m hm).nx h (by simp only [zG]; omega) _) ?_
  refine qN ?_
  refine zX0 [5] [_, pr S id t (l ++ numB s.length ++ (s.take i).flatMap (fun x => numB n ++ (numB m ++ textB x)) ++ numB n ++ numB m ++ textB x) ++ [.cells (encS (.mk 6 ins)).cells, .cells (encV (.mk (n : Int) (m : Int) s c w)).cells]] mo (by decide) V V V V ?_
  refine zU V V (.cons (zY V V Vv) (.cons (zY V V Vv) (.nil))) <| zU V V (.cons (zD0 V V V Vv) (.cons (zD0 V V V Vv) (.nil))) <| dO V V V (zE V V fo232_0 Vv) <| zU V V (.cons (zY V V Vv) (.cons (zY V V Vv) (.nil))) <| zU V V (.cons (zD1 V V V co126 (codeText_spec x (by omega) _)) .nil) ?_
  refine zB1 V V V V (zD1 V V V co125 (write_nx h (textB x) (by simp only [zG]; omega) _)) ?_
  refine zP0 <| qR V <| qO V <| zT0 V V V V <| qM V V V <| qN ?_
  refine ⟨i + 1, by omega, by omega, by rw [flatG_take hs]; simp only [zN, List.nil_append], (.keep V (.keep V (.keep V (.keep V (.nil))))), (.eq V (zQ1 hlt hlen') (.nil))⟩
 ·
  have hge : i = s.length := by simp at h123; omega
  refine zM1 ?_
  exact zB2 (by simp) zN4 (by rw [zU2]; exact Nat.le_refl _) (cls_pr hcl h.idl h.tl) ⟨rfl, by rw [hge, List.take_length, zN]⟩
theorem clk_writes0 (ins : List Sch) (n m : Int) (s : List Bs) (w : List Val) (id t : Nat) : Writes 153 id t [.ref id 0, encS (.mk 7 ins), encV (.mk n m s [] w)] (rowB tkB []) := by
 intro l S h hl
 refine zM zT4 V zZ4 (zA V) ?_
 refine zW0 fun _ hcl => ?_
 rw [List.append_nil] at hcl
 rw [rowB, zG] at hl
 refine zB <| qR V <| qB V V V V V <| qB V V V V V <| qN <| zB <| qR V <| qF V V V zJ2 <| qO V <| zL0 (by simp [zU2]) V V V ta3 V ?_
 refine qN <| zX <| zB <| zB <| qR V <| qC V V V V V <| qA V V V <| qN <| zL V (V) <| qR V <| qC V V V V V <| qA V V V <| qN <| zL V (V) <| zB <| zB <| qR V <| qC V V V V V <| qA V V V <| qN <| zL V (V) <| qR V <| qC V V V V V ?_
 refine qA V V V <| qN <| zL V (V) <| zB <| qR V <| qC V V V V V <| qA V V V <| qN <| zL V (V) <| zB <| qR V <| qC V V V V V <| qA V V V <| qN <| zL V (V) <| zB <| qR V <| qC V V V V V <| qA V V V <| qN <| zT V (V) <| zB <| qR V ?_
 refine qA V V V <| qN <| zB <| zB <| qR V <| qF V V V zT2 <| qO V <| zL0 (by simp [zU2]) V V V ta24 V ?_
 refine qE V V zE0 V <| qC V V V V V <| qN <| zL V (V) <| zQ <| qR V <| qM V V V <| qM V V V ?_
 refine qX V V V V co195 ((clock_sl [] (by simp) (by simp) id t h (by omega) _).sub (.cons (.refl _) (.cons (.nil 2) .nil))) ?_
 refine qN ?_
 exact zB2 (by simp) zN4 (by rw [zU2]; exact Nat.le_refl _) (cls_pr hcl h.idl h.tl) Vv
theorem clk_writes1 (ins : List Sch) (n m : Int) (s : List Bs) (x : List Tk) (hx : x.length ≤ 1000) (hx0 : ∀ t ∈ x, okW t) (w : List Val) (id t : Nat) : Writes 153 id t [.ref id 0, encS (.mk 7 ins), encV (.mk n m s [x] w)] (rowB tkB x) := by
 intro l S h hl
 refine zM zT4 V zZ4 (zA V) ?_
 refine zW0 fun _ hcl => ?_
 rw [List.append_nil] at hcl
 rw [rowB, zG] at hl
 refine zB <| qR V <| qB V V V V V <| qB V V V V V <| qN <| zB <| qR V <| qF V V V zJ2 <| qO V <| zL0 (by simp [zU2]) V V V ta3 V ?_
 refine qN <| zX <| zB <| zB <| qR V <| qC V V V V V <| qA V V V <| qN <| zL V (V) <| qR V <| qC V V V V V <| qA V V V <| qN <| zL V (V) <| zB <| zB <| qR V <| qC V V V V V <| qA V V V <| qN <| zL V (V) <| qR V <| qC V V V V V ?_
 refine qA V V V <| qN <| zL V (V) <| zB <| qR V <| qC V V V V V <| qA V V V <| qN <| zL V (V) <| zB <| qR V <| qC V V V V V <| qA V V V <| qN <| zL V (V) <| zB <| qR V <| qC V V V V V <| qA V V V <| qN <| zT V (V) <| zB <| qR V ?_
 refine qA V V V <| qN <| zB <| zB <| qR V <| qF V V V zT2 <| qO V <| zL0 (by simp [zU2]) V V V ta24 V ?_
 refine qE V V zE0 V <| qC V V V V V <| qN <| zT V (V) <| qR V <| qF V V V zT2 <| qO V <| zL0 (by simp [zU2]) V V V ta24 V ?_
 refine qO V <| zK V zE0 sz202 (by decide) V V V (show _ = some (encC x) from V) ?_
 refine qO V <| zO V V ta202 V <| qA V V V <| qN <| qR V <| qM V V V <| qM V V V ?_
 refine qX V V V V co195 (clock_sl x hx hx0 id t h (by omega) _) ?_
 refine qN ?_
 exact zB2 (by simp) zN4 (by rw [zU2]; exact Nat.le_refl _) (cls_pr hcl h.idl h.tl) Vv
theorem sibs_writes (k1 : Int) (i1 : List Sch) (E : Val → Bs) (n m : Int) (s : List Bs) (ps : List (List Tk × Val)) (id t : Nat) (hpl : ps.length ≤ 1000) (hps : ∀ p ∈ ps, p.1.length ≤ 1000 ∧ ∀ t ∈ p.1, okW t) (hE : ∀ p ∈ ps, Writes 153 id t [.ref id 0, encS (.mk k1 i1), encV p.2] (E p.2)) : Writes 153 id t [.ref id 0, encS (.mk 8 [.mk k1 i1]), encV (.mk n m s (ps.map Prod.fst) (ps.map Prod.snd))] (rowB (sibB E) ps) := by
 intro l S h hl
 refine zM zT4 V zZ4 (zA V) ?_
 refine zW0 fun _ hcl => ?_
 rw [List.append_nil] at hcl
 have hlen' : ps.length ≤ maxLen := by simp only [maxLen]; omega
 have hnb := zP2 9 ps.length (by omega)
 rw [rowB, zG] at hl
 refine zB <| qR V <| qB V V V V V <| qB V V V V V <| qN <| zB <| qR V <| qF V V V zJ2 <| qO V <| zL0 (by simp [zU2]) V V V ta3 V ?_
 refine qN <| zX <| zB <| zB <| qR V <| qC V V V V V <| qA V V V <| qN <| zL V (V) <| qR V <| qC V V V V V <| qA V V V <| qN <| zL V (V) <| zB <| zB <| qR V <| qC V V V V V <| qA V V V <| qN <| zL V (V) <| qR V <| qC V V V V V ?_
 refine qA V V V <| qN <| zL V (V) <| zB <| qR V <| qC V V V V V <| qA V V V <| qN <| zL V (V) <| zB <| qR V <| qC V V V V V <| qA V V V <| qN <| zL V (V) <| zB <| qR V <| qC V V V V V <| qA V V V <| qN <| zL V (V) <| zB <| qR V ?_
 refine qM V V V <| qF V V V zT2 <| qO V <| zL0 (by simp [zU2]) V V V ta24 V ?_
 refine qE V V zE0 V <| qO V <| zX1 V zH1 zZ0 V (zX2 (by rw [zF, zF]; omega)) ?_
 rw [zF, zF]
 refine qX V V V V co194 ((zY4 id t ps.length (by omega)).sl h (by omega) _) ?_
 refine qN <| zB <| qR V <| qF V V V zT2 <| qO V <| zL0 (by simp [zU2]) V V V ta24 V ?_
 refine qE V V zE0 V <| qM V V V <| qN <| zX ?_
 show mwp _ _ _ _ _ _ _ (([] : MS) ++ (pr S id t (l ++ numB ps.length) ++ [.cells (encS (.mk 8 [.mk k1 i1])).cells, .cells (encV (.mk n m s (ps.map Prod.fst) (ps.map Prod.snd))).cells]))
 refine zS1 (α := Nat) [(0, _), (4, _), (5, _), (22, _), (23, _)] (fun i => [(24, .int .i64 (i : Int))]) (fun i => (pr S id t (l ++ numB ps.length ++ (ps.take i).flatMap (sibB E)) ++ [.cells (encS (.mk 8 [.mk k1 i1])).cells, .cells (encV (.mk n m s (ps.map Prod.fst) (ps.map Prod.snd))).cells])) (fun i => i ≤ ps.length) (fun i => ps.length - i) (0) (.keep V (.keep V (.keep V (.keep V (.keep V (.nil)))))) (.keep V (.nil)) (by omega) (by simp) ?_
 rintro i hi
 show mwp _ _ _ _ _ _ _ (pr S id t (l ++ numB ps.length ++ (ps.take i).flatMap (sibB E)) ++ [.cells (encS (.mk 8 [.mk k1 i1])).cells, .cells (encV (.mk n m s (ps.map Prod.fst) (ps.map Prod.snd))).cells])
 have hw := h.pr (l ++ numB ps.length ++ (ps.take i).flatMap (sibB E))
 refine zB <| qR V <| qC V V V V V <| qN <| zB ?_
 refine zJ V (fun h25 => ?_) (fun h25 => ?_)
 ·
  rw [zF, zF] at h25
  have hlt : i < ps.length := by simpa using h25
  obtain ⟨⟨x, ⟨n9, m9, s9, c9, w9⟩⟩, hs⟩ : ∃ q_, ps[i]? = some q_ := ⟨_, zC hlt⟩
  have hpm := zW hs
  have hx := hps _ hpm
  dsimp only at hx
  have hle := flatG_le (G := sibB E) hs
  rw [sibB, zG] at hle
  dsimp only at hle
  have hgx : ((ps.map Prod.fst).map encC)[i]? = some (encC x) := by rw [zH0, zH0, hs]; rfl
  have hgw : (encVs (ps.map Prod.snd))[i]? = some (encV (.mk n9 m9 s9 c9 w9)) := by rw [encVs_eq, zH0, zH0, hs]; rfl
  refine zQ <| zB <| zX <| zB <| qR V <| qM V V V <| qO V <| zK V zE0 sz202 (by decide) V V V hgx ?_
  refine qO V <| zO V V ta202 V <| qA V V V <| qA V V V <| qN <| zB <| qR V <| qM V V V <| qM V V V ?_
  refine qX V V V V co195 (clock_nx x hx.1 hx.2 id t h (by simp only [zG]; omega) _) ?_
  refine qN ?_
  refine zX0 [10] [_, pr S id t (l ++ numB ps.length ++ (ps.take i).flatMap (sibB E) ++ rowB tkB x ++ E (.mk n9 m9 s9 c9 w9)) ++ [.cells (encS (.mk 8 [.mk k1 i1])).cells, .cells (encV (.mk n m s (ps.map Prod.fst) (ps.map Prod.snd))).cells]] mo (by decide) V V V V ?_
  refine dO V V V (zY V V Vv) <| zU V V (.cons (zE V V zS3 Vv) (.cons (zE V V zS3 Vv) (.nil))) <| zU V V (.cons (zL0 (by simp [zU2]) V V V ta51 V Vv) (.cons (zL0 (by simp [zU2]) V V V ta51 V Vv) (.nil))) ?_
  refine zU V V (.cons (zK V zQ0 sz53 (by decide) V V V (show _ = some (encS (.mk k1 i1)) from V) Vv) (.cons (zK V zQ0 sz53 (by decide) V V V (show _ = some (encS (.mk k1 i1)) from V) Vv) (.nil))) ?_
  refine dO V V V (zO V V ta53 V Vv) <| zU V V (.cons (zE V V zI2 Vv) (.cons (zE V V zI2 Vv) (.nil))) <| zU V V (.cons (zL0 (by simp [zU2]) V V V ta25 V Vv) (.cons (zL0 (by simp [zU2]) V V V ta25 V Vv) (.nil))) ?_
  refine zU V V (.cons (zY V V Vv) (.cons (zY V V Vv) (.nil))) <| zU V V (.cons (zK V zI0 sz27 (by decide) V V V hgw Vv) (.cons (zK V zI0 sz27 (by decide) V V V hgw Vv) (.nil))) ?_
  refine dO V V V (zO V V ta27 V Vv) <| zB1 V V V V (zD1 V V V co153 ((hE _ hpm).nx h (by simp only [zG]; omega) _)) ?_
  refine zP0 <| qR V <| qO V <| zT0 V V V V <| qM V V V <| qN ?_
  refine ⟨i + 1, by omega, by omega, by rw [flatG_take hs]; simp only [sibB, zN, List.nil_append], (.keep V (.keep V (.keep V (.keep V (.keep V (.nil)))))), (.eq V (zQ1 hlt hlen') (.nil))⟩
 ·
  rw [zF, zF] at h25
  have hge : i = ps.length := by simp at h25; omega
  refine zM1 ?_
  exact zB2 (by simp) zN4 (by rw [zU2]; exact Nat.le_refl _) (cls_pr hcl h.idl h.tl) ⟨rfl, by rw [hge, List.take_length, rowB, zN]⟩
theorem clk_okW {c : List Tk} (h : isClockF c = true) (ho : ∀ t ∈ c, okTk t) : c.length ≤ 1000 ∧ ∀ t ∈ c, okW t := by
 obtain ⟨h1, h2⟩ := clk_who h
 refine ⟨by omega, fun t ht => ?_⟩
 have := h2 t ht
 have := ho t ht
 unfold okTk at this
 exact ⟨by omega, by omega⟩
theorem value_writes : ∀ (d : Nat) (s : Sch), isF d s = true → ∀ v, isOk s v → ∀ id t, Writes 153 id t [.ref id 0, encS s, encV v] (valB s v)
 | 0, s, h, v, _, _, _ => by simp [isF] at h
 | d + 1, .mk k ins, h, .mk n m s c w, hv, id, t => by
  simp only [isF, Bool.and_eq_true, beq_iff_eq, List.all_eq_true] at h
  have ho := hv.2
  have hov := ok_vals hv.2
  rw [okV] at ho
  rcases kinds h.1 with ⟨hk, rfl⟩ | ⟨rfl, rfl⟩ | ⟨rfl, rfl⟩ | ⟨rfl, rfl⟩ | ⟨⟨k1, i1⟩, rfl, rfl⟩ | ⟨⟨k1, i1⟩, rfl, rfl⟩ | ⟨⟨k1, i1⟩, ⟨k2, i2⟩, rfl, rfl⟩
  ·obtain ⟨rfl, rfl, rfl, rfl⟩ := bare_nums hk hv.1
   rw [valB, kindB, if_pos (by omega)]
   exact flat_writes k [] (by omega) n 0 [] [] [] ho.1 (by simp) (by simp) id t
  ·obtain ⟨rfl, rfl, rfl, rfl, h1, h2⟩ := bare_set hv.1
   rw [valB, kindB, if_pos (by omega)]
   exact flat_writes 3 [] (by omega) 0 0 s [] [] ho.1 (by omega) (fun x hx => by have := h2 x hx; omega) id t
  ·rw [valB, kindB, if_neg (by omega), if_neg (by omega), if_neg (by omega), if_pos rfl]
   obtain ⟨q, rfl⟩ : ∃ q : Nat, n = (q : Int) := ⟨n.toNat, by omega⟩
   obtain ⟨r, rfl⟩ : ∃ q : Nat, m = (q : Int) := ⟨m.toNat, by omega⟩
   obtain ⟨hc, hw, hs⟩ := bare_last hv.1
   have hsl : s.length ≤ 1000 ∧ ∀ x ∈ s, x.length ≤ 1000 := by
    rcases hs with ⟨rfl, _, _⟩ | ⟨t, rfl, ht⟩
    ·simp
    ·simp; omega
   exact last_writes [] q r (by omega) (by omega) s c w hsl.1 hsl.2 id t
  ·rw [valB, kindB, if_neg (by omega), if_neg (by omega), if_neg (by omega), if_neg (by omega), if_pos rfl]
   obtain ⟨rfl, rfl, rfl, rfl, rfl | ⟨x, rfl, hx, hc⟩⟩ := bare_one hv.1
   ·exact clk_writes0 [] 0 0 [] [] id t
   ·obtain ⟨h1, h2⟩ := clk_okW hc (ho.2.2.1 x (by simp))
    exact clk_writes1 [] 0 0 [] x h1 h2 [] id t
  ·obtain ⟨rfl, rfl, rfl, hl, hs, hw⟩ := bare_map hv.1
   obtain ⟨z1, z2⟩ := zip_fst hl
   have hM := map_writes k1 i1 (valB (.mk k1 i1)) 0 0 [] (s.zip w) id t (by rw [zip_len hl]; omega) (fun p hp => by
    have := hs.2 p.1 (by rw [← z1]; exact List.mem_map.2 ⟨p, hp, rfl⟩)
    omega) (fun p hp => by
    have hm : p.2 ∈ w := by rw [← z2]; exact List.mem_map.2 ⟨p, hp, rfl⟩
    exact value_writes d _ (h.2 _ (by simp)) p.2 ⟨hw _ hm, hov _ hm⟩ id t)
   rw [show (s.zip w).map Prod.fst = s from z1, show (s.zip w).map Prod.snd = w from z2] at hM
   rw [valB, kindB, if_neg (by omega), if_pos rfl, valBs]
   exact hM
  ·obtain ⟨rfl, rfl, rfl, hl, hs, hw⟩ := bare_sibs hv.1
   obtain ⟨z1, z2⟩ := zip_fst hl
   have hM := sibs_writes k1 i1 (valB (.mk k1 i1)) 0 0 [] (c.zip w) id t (by rw [zip_len hl]; omega) (fun p hp => by
    have hm : p.1 ∈ c := by rw [← z1]; exact List.mem_map.2 ⟨p, hp, rfl⟩
    exact clk_okW (hs.2 _ hm) (ho.2.2.1 _ hm)) (fun p hp => by
    have hm : p.2 ∈ w := by rw [← z2]; exact List.mem_map.2 ⟨p, hp, rfl⟩
    exact value_writes d _ (h.2 _ (by simp)) p.2 ⟨hw _ hm, hov _ hm⟩ id t)
   rw [show (c.zip w).map Prod.fst = c from z1, show (c.zip w).map Prod.snd = w from z2] at hM
   rw [valB, kindB, if_neg (by omega), if_neg (by omega), if_neg (by omega), if_neg (by omega), if_neg (by omega), valBs]
   exact hM
  ·obtain ⟨rfl, rfl, rfl, rfl, x, y, rfl, q1, q2⟩ := bare_pair hv.1
   rw [valB, kindB, if_neg (by omega), if_neg (by omega), if_pos rfl, valBs, valBs]
   exact pair_writes k1 k2 i1 i2 _ _ 0 0 [] [] x y id t (value_writes d _ (h.2 _ (by simp)) x ⟨q1, hov x (by simp)⟩ id t) (value_writes d _ (h.2 _ (by simp)) y ⟨q2, hov y (by simp)⟩ id t)
theorem bytes_of (sc : Sch) (x : Val) (hs : isF 16 sc = true) (hx : isOk sc x) (hsz : szM (encV x) ≤ 1500000) (S : MS) : MCalls Tryz.prog 90 [encS sc, encV x] S fun v σ' => v = .str (bs (valB sc x)) ∧ σ' = S := by
 obtain ⟨h1, h2⟩ := valB_len 16 sc hs x hx
 exact bytes_spec sc x (valB sc x) hx.2 (by rw [hs, hx.1]; rfl) (fun e => by rw [e] at h1; simp at h1) (by omega) (fun id t => value_writes 16 sc hs x hx id t) S
end Go.Proofs.YtciimaabeabkdaaGreatDoor
namespace Go.Proofs.YtciimaabeabkdaaGreatDoor
open Go Go.MV
def encEr (e : Int) : MV := if e = 0 then .iface0 else encErr e
noncomputable def joinedF (l : List Tbl) (w : Option Val) (n : Nat) (key : Bs) (v : Val) : Val × Bool × Int := match findP l key with
 | none => (v, false, 10)
 | some t => if (isF 16 t.2.2 && isVF t.2.2 v) = false then (v, false, 14)
  else if w = none ∧ noneF t.2.2 v = false ∧ 24 ≤ n then (v, false, 15)
  else match joinVF t.2.2 (getF l w key) v with
   | .error e => (v, false, e)
   | .ok j => if 4000 < (valB t.2.2 j).length then (v, false, 13) else (j, !decide (j = getF l w key), 0)
theorem sub_zV : Sub zV (encV noV) := .agg (.cons (.refl _) (.cons (.refl _) (.cons (.nil 1) (.cons (.nil 1) (.cons (.nil 5) .nil)))))
theorem look_sub (w : Option Val) : ∃ n m s c v, Sub ((w.map encV).getD zV) (encV (.mk n m s c v)) := by
 rcases w with _ | ⟨n, m, s, c, v⟩
 ·exact ⟨_, _, _, _, _, sub_zV⟩
 ·exact ⟨n, m, s, c, v, .refl _⟩
theorem val_form (v : Val) : ∃ n m s c w, v = .mk n m s c w := by
 cases v
 exact ⟨_, _, _, _, _, rfl⟩
theorem joined_none {l : List Tbl} {w : Option Val} {n : Nat} {key : Bs} {v : Val} (hf : findP l key = none) : joinedF l w n key v = (v, false, 10) := by
 unfold joinedF
 rw [hf]
theorem joined_type {l : List Tbl} {w : Option Val} {n : Nat} {key : Bs} {v : Val} {t : Tbl} (hf : findP l key = some t) (h : (isF 16 t.2.2 && isVF t.2.2 v) = false) : joinedF l w n key v = (v, false, 14) := by
 unfold joinedF
 rw [hf]
 simp only []
 rw [if_pos h]
theorem joined_full {l : List Tbl} {w : Option Val} {n : Nat} {key : Bs} {v : Val} {t : Tbl} (hf : findP l key = some t) (h : (isF 16 t.2.2 && isVF t.2.2 v) = true) (h2 : w = none ∧ noneF t.2.2 v = false ∧ 24 ≤ n) : joinedF l w n key v = (v, false, 15) := by
 unfold joinedF
 rw [hf]
 simp only []
 rw [if_neg (by rw [h]; simp), if_pos h2]
theorem joined_err {l : List Tbl} {w : Option Val} {n : Nat} {key : Bs} {v : Val} {t : Tbl} {e : Int} (hf : findP l key = some t) (h : (isF 16 t.2.2 && isVF t.2.2 v) = true) (h2 : ¬ (w = none ∧ noneF t.2.2 v = false ∧ 24 ≤ n)) (hj : joinVF t.2.2 (getF l w key) v = .error e) : joinedF l w n key v = (v, false, e) := by
 unfold joinedF
 rw [hf]
 simp only []
 rw [if_neg (by rw [h]; simp), if_neg h2, hj]
theorem joined_ok {l : List Tbl} {w : Option Val} {n : Nat} {key : Bs} {v j : Val} {t : Tbl} (hf : findP l key = some t) (h : (isF 16 t.2.2 && isVF t.2.2 v) = true) (h2 : ¬ (w = none ∧ noneF t.2.2 v = false ∧ 24 ≤ n)) (hj : joinVF t.2.2 (getF l w key) v = .ok j) : joinedF l w n key v = if 4000 < (valB t.2.2 j).length then (v, false, 13) else (j, !decide (j = getF l w key), 0) := by
 unfold joinedF
 rw [hf]
 simp only []
 rw [if_neg (by rw [h]; simp), if_neg h2, hj]
theorem cl_er {n : Nat} (e : Int) : Cl n (encEr e) := by
 unfold encEr
 split
 ·exact .iface0
 ·exact .iface _ _ (.int _ _)
theorem _root_.zV5 : type_of% @Tryz.results85 := @Tryz.results85
theorem joined0_spec (S : MS) (tid mid clk : Nat) (es : List ME) (l : List Tbl) (key : Bs) (w : Option Val) (v : Val) (hS : S[tid]? = some (tbO0 l mid)) (hm : S[mid]? = some (.mp clk es)) (hl : mpLook (bs key) es = w.map encV) (ov : okV v) (ow : okV (getF l w key)) (hb : ∀ t j, findP l key = some t → joinVF t.2.2 (getF l w key) v = .ok j → isOk t.2.2 j ∧ szM (encV j) ≤ 1500000 ∧ leqVF t.2.2 j (getF l w key) = .ok (decide (j = getF l w key))) : MCalls Tryz.prog 85 [.ref tid 0, .str (bs key), encV v] S fun v' σ' => v' = .tup [encV (joinedF l w 0 key v).1, .bool (joinedF l w 0 key v).2.1, encEr (joinedF l w 0 key v).2.2] ∧ σ' = S := by
 refine zM Tryz.func85 V Tryz.ntmps85 (zA V) ?_
 obtain ⟨n1, m1, s1, c1, w1, hv⟩ := val_form v
 obtain ⟨gn, gm, gs, gc, gv, hG⟩ := val_form (getF l w key)
 obtain ⟨xn, xm, xs, xc, xv, hsx⟩ := look_sub w
 subst hv
 rw [hG] at ow
 have hfs := find_spec l key
 have hget : ∀ S1 : MS, _ → _ → _ := fun S1 h1 h2 => tblGet_spec S1 tid mid clk es l .lst0 key w h1 h2 hl
 rw [hG] at hget
 refine zB <| qR V <| qB V V V V V <| qO V <| zN0 V zm27 V V <| qA V V V <| qA V V V <| qN <| zB ?_
 rcases hf : findP l key with _ | ⟨fn, fl, ⟨fk, fi⟩⟩ <;> rw [hf] at hfs
 ·
  refine qR V <| qM V V V <| qO V <| zD0 V V V <| qF V V V fo150_0 <| qO V <| zP1 V V hS ta39 V <| qM V V V ?_
  refine qX V V V V co20 (hfs _) ?_
  refine qM V V V <| qO V <| zJ0 V V V <| qO V <| zJ0 V V V <| qO V <| zN0 V zm55 V V <| qO V <| zC0 V V V V sz55 V V (zA V) V <| qA V V V <| qN <| zB <| zB <| qR V <| qM V V V <| qO V <| zC1 V V <| qN <| zT V (V) <| zB <| qR V <| qL V V V V ta27 V <| qO V <| zR1 V V zL1 (by simp) ?_
  refine qO V <| zC0 V V V V sz27 V V (zA V) V <| qA V V V <| qA V V V <| qN <| zI ?_
  exact ret_ctt (.inr V) zV5 V V ta27 V (.refl _) (zV1 _ (.mk n1 m1 s1 c1 w1)) V (.refl _) (.bool _) V (.refl _) (cl_er 10) ⟨by rw [joined_none hf]; rfl, rfl⟩
 ·
  refine qR V <| qM V V V <| qO V <| zD0 V V V <| qF V V V fo150_0 <| qO V <| zP1 V V hS ta39 V <| qM V V V ?_
  refine qX V V V V co20 (hfs _) ?_
  refine qM V V V <| qO V <| zJ0 V V V <| qO V <| zJ0 V V V <| qO V <| zN0 V zm55 V V <| qO V <| zC0 V V V V sz55 V V (zA V) V <| qA V V V <| qN <| zB <| zB <| qR V <| qM V V V <| qO V <| zC1 V V <| qN <| zL V (V) <| zQ <| zB <| zB <| qR V <| qF V V V zZ6 <| qL V V V V ta53 V ?_
  refine qL V V V V ta27 V ?_
  refine qX V V V V co116 (valIs_spec (.mk fk fi) (.mk n1 m1 s1 c1 w1) ov _) ?_
  refine qO V <| zC1 V V <| qN ?_
  refine zJ V (fun h34 => ?_) (fun h34 => ?_)
  ·
   have hty : (isF 16 (.mk fk fi) && isVF (.mk fk fi) (.mk n1 m1 s1 c1 w1)) = false := by rwa [Bool.not_eq_true'] at h34
   refine zB <| qR V <| qL V V V V ta27 V <| qO V <| zR1 V V zL1 (by simp) ?_
   refine qO V <| zC0 V V V V sz27 V V (zA V) V <| qA V V V <| qA V V V <| qN <| zI ?_
   exact ret_ctt (.inr V) zV5 V V ta27 V (.refl _) (zV1 _ (.mk n1 m1 s1 c1 w1)) V (.refl _) (.bool _) V (.refl _) (cl_er 14) ⟨by rw [joined_type hf hty]; rfl, rfl⟩
  ·
   have hty : (isF 16 (.mk fk fi) && isVF (.mk fk fi) (.mk n1 m1 s1 c1 w1)) = true := by rwa [Bool.not_eq_false'] at h34
   refine zQ <| zB <| qR V <| qM V V V <| qM V V V ?_
   refine qX V V V V co27 (hget _ (zS hS) (zS hm)) ?_
   refine qO V <| zN0 V zm27 V V <| qO V <| zC0 V V V V sz27 V V (zA V) V <| qN <| zB <| qR V <| qM V V V <| qO V <| zD0 V V V <| qF V V V fo150_1 <| qF V V V fo148_1 <| qO V <| zP1 V V hS ta146 V <| qM V V V <| qO V <| zZ1 (y := .tup [encV (.mk xn xm xs xc xv), .bool w.isSome]) (op_lookup_ok (t := 146) (e := 27) (z := zV) (m := (w.map encV).getD zV) (c := w.isSome) V (by kernel_rfl) (by kernel_rfl) V V (zS hm) (by rw [hl]) (by rw [hl]; cases w <;> rfl) Vv) (.tup (.cons hsx (.cons (.refl _) .nil))) ?_
   refine qM V V V <| qO V <| zJ0 V V V <| qO V <| zJ0 V V V <| qO V <| zN0 V zm27 V V <| qO V <| zC0 V V V V sz27 V V (zA V) V <| qA V V V <| qN ?_
   refine mwp_joinX (E := [(5, .ref (S.length + 0) 0), (6, .ref (S.length + 1) 0), (9, .ref (S.length + 2) 0), (11, .ref (S.length + 3) 0)]) (S ++ [.cells (encV (.mk n1 m1 s1 c1 w1)).cells, .cells [.int .u64 0, .int .u64 0, .lst0, .lst0, .lst0], .cells (encTb (fn, fl, .mk fk fi)).cells, .cells (encV (.mk gn gm gs gc gv)).cells, .cells (encV (.mk xn xm xs xc xv)).cells]) (¬ (w = none ∧ noneF (.mk fk fi) (.mk n1 m1 s1 c1 w1) = false ∧ 24 ≤ 0)) ?_ ?_
   ·
    refine zB <| qR V <| qM V V V <| qO V <| zC1 V V <| qM V V V ?_
    refine zZ (fun h52 => ?_) (fun h52 => ?_)
    ·
     refine qF V V V zZ6 <| qL V V V V ta53 V <| qL V V V V ta27 V ?_
     refine qX V V V V co119 (None_spec (.mk fk fi) (.mk n1 m1 s1 c1 w1) _) ?_
     refine qO V <| zC1 V V <| qP V V V V <| qM V V V ?_
     refine zZ (fun h59 => ?_) (fun h59 => ?_)
     ·
      refine qM V V V <| qO V <| zD0 V V V <| qF V V V fo150_1 <| qF V V V fo148_0 <| qO V <| zP1 V V hS ta23 V <| qO V <| op_len_lst0 V zB0 V <| qC V V V V V <| qP V V V V <| qN ?_
      refine zJ V (fun h67 => ?_) (fun h67 => ?_)
      ·
       have hk24 : 24 ≤ 0 := by simp at h67 <;> omega
       refine zB <| qR V <| qL V V V V ta27 V <| qO V <| zR1 V V zL1 (by simp) ?_
       refine qO V <| zC0 V V V V sz27 V V (zA V) V <| qA V V V <| qA V V V <| qN <| zI ?_
       refine .inr ⟨nofun, ?_⟩
       exact ret_ctt (.inr V) zV5 V V ta27 V (.refl _) (zV1 _ (.mk n1 m1 s1 c1 w1)) V (.refl _) (.bool _) V (.refl _) (cl_er 15) ⟨by rw [joined_full hf hty ⟨by simpa using h52, by simpa using h59, hk24⟩]; rfl, rfl⟩
      ·
       refine zQ ?_
       exact .inl ⟨rfl, rfl, .keep rfl (.keep rfl (.keep rfl (.keep rfl .nil))), by rintro ⟨q1, q2, q3⟩; simp_all <;> omega⟩
     ·
      refine qT V V V V <| qS V <| qS V <| qS V <| qP V V V V <| qN <| zL V (V) <| zQ ?_
      exact .inl ⟨rfl, rfl, .keep rfl (.keep rfl (.keep rfl (.keep rfl .nil))), by rintro ⟨q1, q2, q3⟩; simp_all <;> omega⟩
    ·
     refine qT V V V V <| qS V <| qP V V V V <| qM V V V <| qT V V V V <| qS V <| qS V <| qS V <| qP V V V V <| qN <| zL V (V) <| zQ ?_
     exact .inl ⟨rfl, rfl, .keep rfl (.keep rfl (.keep rfl (.keep rfl .nil))), by rintro ⟨q1, q2, q3⟩; simp_all <;> omega⟩
   ·
    intro hroom
    refine zB ?_
    have hof := join_spec (.mk fk fi) (.mk gn gm gs gc gv) (.mk n1 m1 s1 c1 w1) ow ov
    rcases joinR (.mk fk fi) (.mk gn gm gs gc gv) (.mk n1 m1 s1 c1 w1) with ⟨n3, m3, s3, c3, w3, hj⟩ | hj | hj <;> rw [hj] at hof
    ·
     obtain ⟨hok3, hsz3, hleq3⟩ := hb _ _ hf (by rw [hG]; exact hj)
     rw [hG] at hleq3
     have hlq := leq_spec (.mk fk fi) (.mk n3 m3 s3 c3 w3) (.mk gn gm gs gc gv) hok3.2 ow
     rw [hleq3] at hlq
     refine qR V <| qF V V V zZ6 <| qL V V V V ta53 V <| qL V V V V ta27 V <| qL V V V V ta27 V ?_
     refine qX V V V V co145 (hof _) ?_
     refine qM V V V <| qO V <| zJ0 V V V <| qO V <| zJ0 V V V <| qO V <| zN0 V zm27 V V <| qO V <| zC0 V V V V sz27 V V (zA V) V <| qA V V V <| qN <| zB <| zB <| qR V <| qM V V V <| qO V <| zF4 V zG0 V V (.inl Vv) <| qM V V V <| qF V V V zZ6 <| qL V V V V ta53 V <| qL V V V V ta27 V ?_
     refine qX V V V V co90 (bytes_of (.mk fk fi) (.mk n3 m3 s3 c3 w3) (by rw [Bool.and_eq_true] at hty; exact hty.1) hok3 hsz3 _) ?_
     refine qO V <| zU3 V zV0 V <| qC V V V V V <| qP V V V V <| qN ?_
     refine zJ V (fun h87 => ?_) (fun h87 => ?_)
     ·
      have hlen : 4000 < (valB (.mk fk fi) (.mk n3 m3 s3 c3 w3)).length := by simp at h87; omega
      refine qR V <| qO V <| zR1 V V zL1 (by simp) ?_
      refine qA V V V <| qN <| zB <| zB <| qR V <| qM V V V <| qO V <| zR3 V zG0 V V (.inr Vv) <| qN <| zT V (V) <| zB <| qR V <| qL V V V V ta27 V <| qM V V V <| qO V <| zC0 V V V V sz27 V V (zA V) V <| qA V V V <| qA V V V <| qN <| zI ?_
      exact ret_ctt (.inr V) zV5 V V ta27 V (.refl _) (zV1 _ (.mk n1 m1 s1 c1 w1)) V (.refl _) (.bool _) V (.refl _) (cl_er 13) ⟨by rw [joined_ok hf hty hroom (by rw [hG]; exact hj), if_pos hlen]; rfl, rfl⟩
     ·
      have hlen : ¬ 4000 < (valB (.mk fk fi) (.mk n3 m3 s3 c3 w3)).length := by simp at h87; omega
      refine zQ <| zB <| zB <| qR V <| qM V V V <| qO V <| zF4 V zG0 V V (.inr Vv) <| qN <| zL V (V) <| zQ <| zB <| qR V <| qF V V V zZ6 <| qL V V V V ta53 V <| qL V V V V ta27 V <| qL V V V V ta27 V ?_
      refine qX V V V V co146 (hlq _) ?_
      refine qM V V V <| qO V <| zJ0 V V V <| qO V <| zJ0 V V V <| qA V V V <| qA V V V <| qN <| zB <| qR V <| qL V V V V ta27 V <| qM V V V <| qO V <| zC1 V V <| qM V V V <| qO V <| zC0 V V V V sz27 V V (zA V) V <| qA V V V <| qA V V V <| qN <| zI ?_
      exact ret_ctt (.inr V) zV5 V V ta27 V (.refl _) (zV1 _ (.mk n3 m3 s3 c3 w3)) V (.refl _) (.bool _) V (.refl _) (cl_er 0) ⟨by rw [joined_ok hf hty hroom (by rw [hG]; exact hj), if_neg hlen, hG]; rfl, rfl⟩
    ·
     refine qR V <| qF V V V zZ6 <| qL V V V V ta53 V <| qL V V V V ta27 V <| qL V V V V ta27 V ?_
     refine qX V V V V co145 (hof _) ?_
     refine qM V V V <| qO V <| zJ0 V V V <| qO V <| zJ0 V V V <| qO V <| zN0 V zm27 V V <| qO V <| zC0 V V V V sz27 V V (zA V) V <| qA V V V <| qN <| zB <| zB <| qR V <| qM V V V <| qO V <| zR3 V zG0 V V (.inl Vv) <| qM V V V <| qT V V V V <| qS V <| qS V <| qP V V V V ?_
     refine qN <| zL V (V) <| zQ <| zB <| zB <| qR V <| qM V V V <| qO V <| zR3 V zG0 V V (.inr Vv) <| qN <| zT V (V) <| zB <| qR V <| qL V V V V ta27 V <| qM V V V <| qO V <| zC0 V V V V sz27 V V (zA V) V <| qA V V V <| qA V V V <| qN <| zI ?_
     exact ret_ctt (.inr V) zV5 V V ta27 V (.refl _) (zV1 _ (.mk n1 m1 s1 c1 w1)) V (.refl _) (.bool _) V (.refl _) (cl_er 13) ⟨by rw [joined_err hf hty hroom (by rw [hG]; exact hj)]; rfl, rfl⟩
    ·
     refine qR V <| qF V V V zZ6 <| qL V V V V ta53 V <| qL V V V V ta27 V <| qL V V V V ta27 V ?_
     refine qX V V V V co145 (hof _) ?_
     refine qM V V V <| qO V <| zJ0 V V V <| qO V <| zJ0 V V V <| qO V <| zN0 V zm27 V V <| qO V <| zC0 V V V V sz27 V V (zA V) V <| qA V V V <| qN <| zB <| zB <| qR V <| qM V V V <| qO V <| zR3 V zG0 V V (.inl Vv) <| qM V V V <| qT V V V V <| qS V <| qS V <| qP V V V V ?_
     refine qN <| zL V (V) <| zQ <| zB <| zB <| qR V <| qM V V V <| qO V <| zR3 V zG0 V V (.inr Vv) <| qN <| zT V (V) <| zB <| qR V <| qL V V V V ta27 V <| qM V V V <| qO V <| zC0 V V V V sz27 V V (zA V) V <| qA V V V <| qA V V V <| qN <| zI ?_
     exact ret_ctt (.inr V) zV5 V V ta27 V (.refl _) (zV1 _ (.mk n1 m1 s1 c1 w1)) V (.refl _) (.bool _) V (.refl _) (cl_er 14) ⟨by rw [joined_err hf hty hroom (by rw [hG]; exact hj)]; rfl, rfl⟩
abbrev ltK (a b : Bs) : Prop := Op.bytesLess a b = true
theorem ltK_cons {x y : UInt8} {a b : Bs} : ltK (x :: a) (y :: b) ↔ x < y ∨ (x = y ∧ ltK a b) := by
 unfold ltK
 simp [Op.bytesLess]
theorem ltK_trans : ∀ {a b c : Bs}, ltK a b → ltK b c → ltK a c
 | _, [], _, h, _ => by simp [ltK, Op.bytesLess] at h
 | _, _ :: _, [], _, h => by simp [ltK, Op.bytesLess] at h
 | [], _ :: _, _ :: _, _, _ => by simp [ltK, Op.bytesLess]
 | x :: a, y :: b, z :: c, h1, h2 => by
  rw [ltK_cons] at h1 h2 ⊢
  rcases h1 with h1 | ⟨rfl, h1⟩
  ·rcases h2 with h2 | ⟨rfl, h2⟩
   ·exact .inl (UInt8.lt_trans h1 h2)
   ·exact .inl h1
  ·rcases h2 with h2 | ⟨rfl, h2⟩
   ·exact .inl h2
   ·exact .inr ⟨rfl, ltK_trans h1 h2⟩
theorem ltK_total : ∀ a b : Bs, ltK a b ∨ a = b ∨ ltK b a
 | [], [] => .inr (.inl rfl)
 | [], _ :: _ => .inl (by simp [ltK, Op.bytesLess])
 | _ :: _, [] => .inr (.inr (by simp [ltK, Op.bytesLess]))
 | x :: a, y :: b => by
  rw [ltK_cons, ltK_cons]
  by_cases h1 : x < y
  ·exact .inl (.inl h1)
  ·by_cases h2 : y < x
   ·exact .inr (.inr (.inl h2))
   ·have e : x = y := UInt8.le_antisymm (UInt8.not_lt.1 h2) (UInt8.not_lt.1 h1)
    subst e
    rcases ltK_total a b with h | rfl | h
    ·exact .inl (.inr ⟨rfl, h⟩)
    ·exact .inr (.inl rfl)
    ·exact .inr (.inr (.inr ⟨rfl, h⟩))
def UpB (l : List Bs) : Prop := l.Pairwise ltK
def lowB (t : Bs) (x : List Bs) : Nat := (x.filter fun y => Op.bytesLess y t).length
theorem low_lt {t : Bs} : ∀ {x : List Bs}, UpB x → ∀ {h : Nat} {y : Bs}, x[h]? = some y → (Op.bytesLess y t = true ↔ h < lowB t x)
 | [], _, h, y, hs => by simp at hs
 | a :: l, hu, h, y, hs => by
  obtain ⟨h1, h2⟩ := zN5.1 hu
  by_cases ha : Op.bytesLess a t = true
  ·have e : lowB t (a :: l) = lowB t l + 1 := by unfold lowB; rw [List.filter_cons, if_pos ha]; rfl
   rw [e]
   cases h with
   | zero => simp at hs; subst hs; simp [ha]
   | succ h =>
    rw [low_lt h2 (h := h) (by simpa using hs)]
    omega
  ·have hn : ∀ z ∈ l, ¬ Op.bytesLess z t = true := fun z hz hh => ha (ltK_trans (h1 z hz) hh)
   have e : lowB t (a :: l) = 0 := by
    unfold lowB
    rw [List.filter_cons, if_neg ha, List.filter_eq_nil_iff.2 hn]; rfl
   rw [e]
   have hy : ¬ Op.bytesLess y t = true := by
    cases h with
    | zero => simp at hs; subst hs; exact ha
    | succ h => exact hn y (zW (by simpa using hs))
   simp [hy]
end Go.Proofs.YtciimaabeabkdaaGreatDoor
namespace Go.Proofs.YtciimaabeabkdaaGreatDoor
open Go Go.MV Go.RowKit
theorem hn3 : numM ([3] ++ [120], none) = (3, ([120], none)) := by rfl
theorem hn0 : numM ([], none) = (0, ([], some 11)) := by rfl
end Go.Proofs.YtciimaabeabkdaaGreatDoor
namespace Go.Proofs.YtciimaabeabkdaaGreatDoor
open Go Go.MV
abbrev Ety := Bs × Val
def encEn : Ety → MV
 | (k, .mk n m s c w) => .agg [.str (bs k), .int .u64 n, .int .u64 m, .lst none 1 (s.map encX), .lst none 1 (c.map encC), .lst none 5 (encVs w)]
def okT (l0 bid tid mid clk : Nat) (es : List ME) (l : List Tbl) (E : List Ety) (σ : MS) : Prop := (σ.length = l0 ∧ σ[bid]? = some (.cells [.ref tid 1]) ∧ σ[tid]? = some (tbO l (E.map Prod.fst) mid) ∧ σ[mid]? = some (.mp clk es))
theorem cl_encEn (n : Nat) (e : Ety) : Cl n (encEn e) := by
 obtain ⟨k, ⟨a, b, s, c, w⟩⟩ := e
 have h := zV1 n (.mk a b s c w)
 cases h with
 | agg _ h =>
  refine .agg _ fun x hx => ?_
  rcases List.mem_cons.1 hx with rfl | hx
  ·exact .str _
  ·exact h x hx
theorem encEn_one (e : Ety) : encEn e = .agg (encEn e).cells := by
 obtain ⟨k, ⟨a, b, s, c, w⟩⟩ := e
 rfl
end Go.Proofs.YtciimaabeabkdaaGreatDoor
namespace Go.Proofs.YtciimaabeabkdaaGreatDoor
open Go Go.MV Go.RowKit
abbrev ltB (a b : Bs) : Prop := Op.bytesLess a b = true
def Up (l : List Bs) : Prop := l.Pairwise ltB
section
section
variable {κ : Type} {cmp : κ → κ → Int}
structure OrdK (cmp : κ → κ → Int) : Prop where
 irr : ∀ a, ¬ cmp a a < 0
 tr : ∀ a b c, cmp a b < 0 → cmp b c < 0 → cmp a c < 0
 tot : ∀ a b, ¬ cmp a b < 0 → ¬ cmp b a < 0 → a = b
open Classical in
noncomputable def look (l : List (κ × Val)) (k : κ) : Option Val := match l with
 | [] => none
 | e :: l => if e.1 = k then some e.2 else look l k
open Classical in
theorem look_cons (e : κ × Val) (l : List (κ × Val)) (k : κ) : look (e :: l) k = if e.1 = k then some e.2 else look l k := rfl
theorem _root_.zQ4 : type_of% @look_cons := @look_cons
def SrtK (cmp : κ → κ → Int) (l : List (κ × Val)) : Prop := l.Pairwise fun x y => cmp x.1 y.1 < 0
def HasK (l : List (κ × Val)) (k : κ) : Prop := ∃ e ∈ l, e.1 = k
theorem look_none {l : List (κ × Val)} {k : κ} (h : ¬ HasK l k) : look l k = none := by
 induction l with
 | nil => rfl
 | cons e l ih =>
  rw [look, if_neg (fun he => h ⟨e, .head _, he⟩)]
  exact ih fun ⟨x, hx, e2⟩ => h ⟨x, .tail _ hx, e2⟩
theorem srt_cons {e : κ × Val} {l : List (κ × Val)} : SrtK cmp (e :: l) ↔ (∀ y ∈ l, cmp e.1 y.1 < 0) ∧ SrtK cmp l := zN5
theorem not_has (ho : OrdK cmp) {k : κ} {l : List (κ × Val)} (h : ∀ y ∈ l, cmp k y.1 < 0) : ¬ HasK l k := fun ⟨e, he, e2⟩ => ho.irr k (by have := h e he; rwa [e2] at this)
theorem mem_look (ho : OrdK cmp) {l : List (κ × Val)} (hs : SrtK cmp l) {e : κ × Val} (h : e ∈ l) : look l e.1 = some e.2 := by
 induction l with
 | nil => cases h
 | cons x l ih =>
  have hs' := srt_cons.1 hs
  rw [look]
  rcases List.mem_cons.1 h with rfl | h
  ·rw [if_pos rfl]
  ·rw [if_neg]
   ·exact ih hs'.2 h
   ·intro e2
    have := hs'.1 e h
    rw [e2] at this
    exact ho.irr _ this
def fillE (f : Val → Val → Val) (e : Ent κ) : Val := match e.2.2 with | none => e.2.1 | some w => f e.2.1 w
def mergeG (cmp : κ → κ → Int) (f : Val → Val → Val) (a b : List (κ × Val)) : List (κ × Val) := (mergeE cmp a b).map fun e => (e.1, fillE f e)
def comb (f : Val → Val → Val) : Option Val → Option Val → Option Val
 | none, y => y
 | x, none => x
 | some x, some y => some (f x y)
theorem comb_none (f : Val → Val → Val) (x : Option Val) : comb f x none = x := by cases x <;> rfl
theorem merge_has {f : Val → Val → Val} (ho : OrdK cmp) (a b : List (κ × Val)) (k : κ) : HasK (mergeG cmp f a b) k ↔ HasK a k ∨ HasK b k := by
 unfold HasK mergeG
 simp only [List.mem_map]
 constructor
 ·rintro ⟨e, ⟨x, hx, rfl⟩, rfl⟩
  rcases (mergeE_mem cmp a b x hx).1 with h | h
  ·exact .inl ⟨_, h, rfl⟩
  ·exact .inr ⟨_, h, rfl⟩
 ·intro h
  suffices hs : ∃ x ∈ mergeE cmp a b, x.1 = k by
   obtain ⟨x, hx, e⟩ := hs
   exact ⟨_, ⟨x, hx, rfl⟩, e⟩
  revert h
  induction a, b using mergeE.induct cmp with
  | case1 => rintro (⟨e, he, _⟩ | ⟨e, he, _⟩) <;> cases he
  | case2 x a ih =>
   rw [mergeE]
   rintro (⟨e, he, rfl⟩ | ⟨e, he, _⟩)
   ·rcases List.mem_cons.1 he with rfl | he
    ·exact ⟨_, .head _, rfl⟩
    ·obtain ⟨z, hz, e2⟩ := ih (.inl ⟨e, he, rfl⟩)
     exact ⟨z, .tail _ hz, e2⟩
   ·cases he
  | case3 y b ih =>
   rw [mergeE]
   rintro (⟨e, he, _⟩ | ⟨e, he, rfl⟩)
   ·cases he
   ·rcases List.mem_cons.1 he with rfl | he
    ·exact ⟨_, .head _, rfl⟩
    ·obtain ⟨z, hz, e2⟩ := ih (.inr ⟨e, he, rfl⟩)
     exact ⟨z, .tail _ hz, e2⟩
  | case4 x a y b hlt ih =>
   rw [mergeE, if_pos hlt]
   rintro (⟨e, he, rfl⟩ | h)
   ·rcases List.mem_cons.1 he with rfl | he
    ·exact ⟨_, .head _, rfl⟩
    ·obtain ⟨z, hz, e2⟩ := ih (.inl ⟨e, he, rfl⟩)
     exact ⟨z, .tail _ hz, e2⟩
   ·obtain ⟨z, hz, e2⟩ := ih (.inr h)
    exact ⟨z, .tail _ hz, e2⟩
  | case5 x a y b hlt hgt ih =>
   rw [mergeE, if_neg hlt, if_pos hgt]
   rintro (h | ⟨e, he, rfl⟩)
   ·obtain ⟨z, hz, e2⟩ := ih (.inl h)
    exact ⟨z, .tail _ hz, e2⟩
   ·rcases List.mem_cons.1 he with rfl | he
    ·exact ⟨_, .head _, rfl⟩
    ·obtain ⟨z, hz, e2⟩ := ih (.inr ⟨e, he, rfl⟩)
     exact ⟨z, .tail _ hz, e2⟩
  | case6 x a y b hlt hgt ih =>
   have exy := ho.tot _ _ hlt hgt
   rw [mergeE, if_neg hlt, if_neg hgt]
   rintro (⟨e, he, rfl⟩ | ⟨e, he, rfl⟩)
   ·rcases List.mem_cons.1 he with rfl | he
    ·exact ⟨_, .head _, rfl⟩
    ·obtain ⟨z, hz, e2⟩ := ih (.inl ⟨e, he, rfl⟩)
     exact ⟨z, .tail _ hz, e2⟩
   ·rcases List.mem_cons.1 he with rfl | he
    ·exact ⟨_, .head _, exy⟩
    ·obtain ⟨z, hz, e2⟩ := ih (.inr ⟨e, he, rfl⟩)
     exact ⟨z, .tail _ hz, e2⟩
theorem look_merge (ho : OrdK cmp) (f : Val → Val → Val) : ∀ a b : List (κ × Val), SrtK cmp a → SrtK cmp b → ∀ k, look (mergeG cmp f a b) k = comb f (look a k) (look b k) := by
 intro a b
 induction a, b using mergeE.induct cmp with
 | case1 => intro _ _ k; simp [mergeG, mergeE, look, comb]
 | case2 x a ih =>
  intro ha hb k
  have ha' := srt_cons.1 ha
  have : mergeG cmp f (x :: a) [] = (x.1, x.2) :: mergeG cmp f a [] := by unfold mergeG; rw [mergeE]; rfl
  rw [this, zQ4, zQ4, ih ha'.2 hb]
  rw [show look ([] : List (κ × Val)) k = none from rfl, comb_none, comb_none]
 | case3 y b ih =>
  intro ha hb k
  have hb' := srt_cons.1 hb
  have : mergeG cmp f [] (y :: b) = (y.1, y.2) :: mergeG cmp f [] b := by unfold mergeG; rw [mergeE]; rfl
  rw [this, zQ4, ih ha hb'.2]
  rw [show look ([] : List (κ × Val)) k = none from rfl, zQ4]
  rfl
 | case4 x a y b hlt ih =>
  intro ha hb k
  have ha' := srt_cons.1 ha
  have hb' := srt_cons.1 hb
  have : mergeG cmp f (x :: a) (y :: b) = (x.1, x.2) :: mergeG cmp f a (y :: b) := by unfold mergeG; rw [mergeE, if_pos hlt]; rfl
  rw [this, zQ4, ih ha'.2 hb]
  by_cases hk : x.1 = k
  ·subst hk
   rw [if_pos rfl, mem_look ho ha (.head _), look_none (not_has ho (k := x.1) (l := y :: b) fun z hz => ?_)]
   ·rfl
   ·rcases List.mem_cons.1 hz with rfl | hz
    ·exact hlt
    ·exact ho.tr _ _ _ hlt (hb'.1 z hz)
  ·rw [if_neg hk]
   congr 1
   rw [zQ4, if_neg hk]
 | case5 x a y b hlt hgt ih =>
  intro ha hb k
  have ha' := srt_cons.1 ha
  have hb' := srt_cons.1 hb
  have : mergeG cmp f (x :: a) (y :: b) = (y.1, y.2) :: mergeG cmp f (x :: a) b := by unfold mergeG; rw [mergeE, if_neg hlt, if_pos hgt]; rfl
  rw [this, zQ4, ih ha hb'.2]
  by_cases hk : y.1 = k
  ·subst hk
   rw [if_pos rfl, mem_look ho hb (.head _), look_none (not_has ho (k := y.1) (l := x :: a) fun z hz => ?_)]
   ·rfl
   ·rcases List.mem_cons.1 hz with rfl | hz
    ·exact hgt
    ·exact ho.tr _ _ _ hgt (ha'.1 z hz)
  ·rw [if_neg hk]
   congr 1
   conv => rhs; rw [zQ4, if_neg hk]
 | case6 x a y b hlt hgt ih =>
  intro ha hb k
  have ha' := srt_cons.1 ha
  have hb' := srt_cons.1 hb
  have exy := ho.tot _ _ hlt hgt
  have : mergeG cmp f (x :: a) (y :: b) = (x.1, f x.2 y.2) :: mergeG cmp f a b := by unfold mergeG; rw [mergeE, if_neg hlt, if_neg hgt]; rfl
  rw [this, zQ4, ih ha'.2 hb'.2]
  by_cases hk : x.1 = k
  ·subst hk
   rw [if_pos rfl, mem_look ho ha (.head _), exy, mem_look ho hb (.head _)]
   rfl
  ·rw [if_neg hk]
   conv => rhs; rw [zQ4, if_neg hk, zQ4, if_neg (exy ▸ hk)]
structure SemiL (P : Val → Prop) (f : Val → Val → Val) : Prop where
 cl : ∀ x y, P x → P y → P (f x y)
 comm : ∀ x y, P x → P y → f x y = f y x
 assoc : ∀ x y z, P x → P y → P z → f (f x y) z = f x (f y z)
 idem : ∀ x, P x → f x x = x
variable {blw : κ → κ → Prop}
def Dead (blw : κ → κ → Prop) (K : κ → Prop) (k : κ) : Prop := ∃ o, K o ∧ blw k o
open Classical in
noncomputable def topG (cmp : κ → κ → Int) (blw : κ → κ → Prop) (f : Val → Val → Val) (a b : List (κ × Val)) : List (κ × Val) := (mergeG cmp f a b).filter fun e => decide (¬ Dead blw (HasK (mergeG cmp f a b)) e.1)
theorem look_filter (q : κ → Bool) : ∀ (l : List (κ × Val)) (k : κ), look (l.filter fun e => q e.1) k = if q k = true then look l k else none
 | [], k => by simp [look]
 | e :: l, k => by
  by_cases hp : q e.1 = true
  ·rw [List.filter_cons_of_pos (p := fun e : κ × Val => q e.1) hp, zQ4, look_filter q l k, zQ4]
   by_cases hk : e.1 = k
   ·subst hk; simp [hp]
   ·simp [hk]
  ·rw [List.filter_cons_of_neg (p := fun e : κ × Val => q e.1) hp, look_filter q l k, zQ4]
   by_cases hk : e.1 = k
   ·subst hk; simp [hp]
   ·simp [hk]
def Or2 (a b : List (κ × Val)) (k : κ) : Prop := HasK a k ∨ HasK b k
open Classical in
theorem look_top (ho : OrdK cmp) {f : Val → Val → Val} {a b : List (κ × Val)} (ha : SrtK cmp a) (hb : SrtK cmp b) (k : κ) : look (topG cmp blw f a b) k = if Dead blw (Or2 a b) k then none else comb f (look a k) (look b k) := by
 unfold topG
 rw [look_filter (fun k => decide (¬ Dead blw (HasK (mergeG cmp f a b)) k)), look_merge ho f a b ha hb]
 have : Dead blw (HasK (mergeG cmp f a b)) k ↔ Dead blw (Or2 a b) k := by
  unfold Dead Or2
  simp only [merge_has ho]
 by_cases h : Dead blw (Or2 a b) k
 ·rw [if_pos h, if_neg (by simpa using this.2 h)]
 ·rw [if_neg h, if_pos (by simpa using fun h2 => h (this.1 h2))]
end
end
end Go.Proofs.YtciimaabeabkdaaGreatDoor
namespace Go.Proofs.YtciimaabeabkdaaGreatDoor
open Go Go.MV
def FitJ (l : List Tbl) (w : Option Val) (key : Bs) (v : Val) : Prop := ∀ t j, findP l key = some t → joinVF t.2.2 (getF l w key) v = .ok j → isOk t.2.2 j ∧ szM (encV j) ≤ 1500000 ∧ leqVF t.2.2 j (getF l w key) = .ok (decide (j = getF l w key))
section
def kM1 : Bs := [109, 49]
def tM : Tbl := ([109], 1, .mk 1 [])
theorem find_m1 : findP tabs4 kM1 = some tM := by rfl
section
variable {tid mid clk : Nat} {es : List ME} {l : List Tbl} {keys : List Bs} {key : Bs} {w : Option Val} {a b : Val} {more : Bool} {e : Int}
theorem hj0 (S : MS) (hS : S[tid]? = some (tbO0 l mid)) (hm : S[mid]? = some (.mp clk es)) (hl : mpLook (bs key) es = w.map encV) (ov : okV a) (ow : okV (getF l w key)) (hb : FitJ l w key a) (hr : joinedF l w 0 key a = (b, more, e)) (L : MS) :
  MCalls Tryz.prog 85 [.ref tid 0, .str (bs key), encV a] (S ++ L) fun v σ' => v = .tup [encV b, .bool more, encEr e] ∧ σ' = S ++ L := by
 have h := joined0_spec (S ++ L) tid mid clk es l key w a (zS hS) (zS hm) hl ov ow hb
 rw [hr] at h
 exact h
end
theorem own_get0 {S L : MS} {o : MObj} (h : L[0]? = some o) : (S ++ L)[S.length]? = some o := (getElem?_own S L 0).trans h
theorem _root_.zP6 : type_of% @own_get0 := @own_get0
theorem own_set0 {S L : MS} {o p : MObj} : (S ++ o :: L).set S.length p = S ++ p :: L := zU5
end
end Go.Proofs.YtciimaabeabkdaaGreatDoor
section
namespace Go.MV
open Go Go.RowKit
theorem MCalls.cellow {P : Program} {f : FuncId} {args : List MV} {S T : MS} {x : MV} (k i ty sz : Nat) {l : List MV} (h : MCalls P f args S fun v σ' => v = x ∧ σ' = T) (hk : T[k]? = some (.cells l)) (hi : l[i]? = some .lst0) : MCalls P f args S fun v σ' => v = x ∧ σ' = T.set k (.cells (l.set i (.ow T.length sz 0))) ++ [.orow ty sz 0 []] := by
 intro g w vs hr hd
 refine (h g w vs hr hd).mono ?_
 rintro e w' ⟨v, he, y, σ', g', ⟨rfl, rfl⟩, r0, d0, l0⟩
 obtain ⟨r1, l1, d1⟩ := ow_new r0 ty sz
 have hlt := (zD.1 hk).1
 refine ⟨v, he, _, _, _, Vv, ?_, d0.mono l1, l0.trans l1⟩
 have e : σ'.set k (.cells (l.set i (.ow σ'.length sz 0))) ++ [.orow ty sz 0 []] = (σ' ++ [MObj.orow ty sz 0 []]).set k (.cells (l.set i (.ow σ'.length sz 0))) := by
  rw [List.set_append_left _ _ hlt]
 rw [e]
 refine r1.recell (l := l) (by rw [List.getElem?_append_left hlt]; exact hk) fun us hus => ?_
 obtain ⟨u, hu, hrd⟩ := hus.get hi
 have hs := hus.set i (x := .ow σ'.length sz 0) (u := u) (by rw [hrd.inv_lst0]; exact d1)
 obtain ⟨hul, hue⟩ := zD.1 hu
 rwa [show us.set i u = us by rw [← hue]; exact List.set_getElem_self hul] at hs
end Go.MV
namespace Go.Proofs.YtciimaabeabkdaaGreatDoor
open Go Go.MV
def tbK (l : List Tbl) (oid n mid : Nat) : MObj := .cells [.lst none 4 (l.map encTb), .ow oid 1 n, .map mid]
def rwK (keys : List Bs) : MObj := .orow 9 1 keys.length (keys.map encX)
def insK (k : Bs) (keys : List Bs) : List Bs := keys.take (lowB k keys) ++ k :: keys.drop (lowB k keys)
end Go.Proofs.YtciimaabeabkdaaGreatDoor
end
namespace Go.Proofs.YtciimaabeabkdaaGreatDoor
open Go Go.MV
theorem look_put (clk : Nat) (s s2 : ByteArray) (v : MV) (es : List ME) : mpLook s2 (mpPut clk s v es) = if s2 = s then some v else mpLook s2 es := by
 unfold mpPut
 cases h : mpIdx s es with
 | some i =>
  show mpLook s2 (es.modify i fun e => (e.1, v, e.2.2)) = _
  induction es generalizing i with
  | nil => cases h
  | cons e es ih =>
   obtain ⟨k, u, n⟩ := e
   simp only [mpIdx] at h
   by_cases hk : k = s
   ·rw [if_pos hk] at h
    injection h with h
    subst h hk
    simp only [List.modify_zero_cons, mpLook]
    by_cases h2 : k = s2
    ·rw [if_pos h2, if_pos h2.symm]
    ·rw [if_neg h2, if_neg (fun e => h2 e.symm), if_neg h2]
   ·rw [if_neg hk] at h
    cases hj : mpIdx s es with
    | none => rw [hj] at h; cases h
    | some j =>
     rw [hj] at h
     injection h with h
     subst h
     simp only [List.modify_succ_cons, mpLook]
     rw [ih j hj]
     by_cases h2 : k = s2
     ·rw [if_pos h2, if_pos h2, if_neg (fun e => hk (h2.trans e))]
     ·rw [if_neg h2, if_neg h2]
 | none =>
  show mpLook s2 (es ++ [(s, v, clk)]) = _
  have hno := (mpIdx_none h).1
  clear h
  induction es with
  | nil =>
   simp only [List.nil_append, mpLook]
   by_cases h2 : s = s2
   ·rw [if_pos h2, if_pos h2.symm]
   ·rw [if_neg h2, if_neg (fun e => h2 e.symm)]
  | cons e es ih =>
   obtain ⟨k, u, n⟩ := e
   simp only [List.cons_append, mpLook]
   rw [ih (fun x hx => hno x (.tail _ hx))]
   by_cases h2 : k = s2
   ·rw [if_pos h2, if_pos h2, if_neg (fun e => hno _ (.head _) (h2.trans e))]
   ·rw [if_neg h2, if_neg h2]
theorem bs_iff {a b : Bs} : bs a = bs b ↔ a = b := by
 constructor
 ·intro e
  unfold bs at e
  injection e with e
  exact List.toArray_inj e
 ·rintro rfl
  rfl
def lookE (k : Bs) (E : List Ety) : Option Val := (E.find? fun e => decide (e.1 = k)).map (·.2)
def insE (k : Bs) (b : Val) (E : List Ety) : List Ety := if k ∈ E.map Prod.fst then E.map (fun e => if e.1 = k then (k, b) else e) else E.take (lowB k (E.map Prod.fst)) ++ (k, b) :: E.drop (lowB k (E.map Prod.fst))
theorem find_no {k : Bs} : ∀ {E : List Ety}, k ∉ E.map Prod.fst → E.find? (fun e => decide (e.1 = k)) = none := by
 intro E h
 rw [List.find?_eq_none]
 intro e he hk
 exact h (List.mem_map.2 ⟨e, he, by simpa using hk⟩)
theorem look_no {k : Bs} {E : List Ety} (h : k ∉ E.map Prod.fst) : lookE k E = none := by
 unfold lookE
 rw [find_no h]
 rfl
theorem keys_in {k : Bs} {b : Val} {E : List Ety} (h : k ∈ E.map Prod.fst) : (insE k b E).map Prod.fst = E.map Prod.fst := by
 unfold insE
 rw [if_pos h, List.map_map]
 apply List.map_congr_left
 intro e he
 show (if e.1 = k then (k, b) else e).1 = e.1
 split
 ·rename_i hk; exact hk.symm
 ·rfl
theorem keys_new {k : Bs} {b : Val} {E : List Ety} (h : k ∉ E.map Prod.fst) : (insE k b E).map Prod.fst = insK k (E.map Prod.fst) := by
 unfold insE insK
 rw [if_neg h, List.map_append, List.map_cons, List.map_take, List.map_drop]
theorem up_insK {k : Bs} {keys : List Bs} (hu : UpB keys) (h : k ∉ keys) : UpB (insK k keys) := by
 have hlo : ∀ x ∈ keys.take (lowB k keys), ltK x k := fun x hx => by
  obtain ⟨j, hj⟩ := List.getElem?_of_mem hx
  rw [List.getElem?_take] at hj
  split at hj
  ·rename_i hlt
   exact (low_lt hu hj).2 hlt
  ·cases hj
 have hhi : ∀ x ∈ keys.drop (lowB k keys), ltK k x := fun x hx => by
  obtain ⟨j, hj⟩ := List.getElem?_of_mem hx
  rw [List.getElem?_drop] at hj
  have h1 : ¬ ltK x k := fun hh => by have := (low_lt hu hj).1 hh; omega
  rcases ltK_total k x with h2 | rfl | h2
  ·exact h2
  ·exact absurd (zW hj) h
  ·exact absurd h2 h1
 have hp : UpB (keys.take (lowB k keys) ++ keys.drop (lowB k keys)) := by rw [List.take_append_drop]; exact hu
 obtain ⟨p1, p2, p3⟩ := List.pairwise_append.1 hp
 refine List.pairwise_append.2 ⟨p1, zN5.2 ⟨hhi, p2⟩, fun a ha b hb => ?_⟩
 rcases List.mem_cons.1 hb with rfl | hb
 ·exact hlo a ha
 ·exact p3 a ha b hb
theorem up_ins {k : Bs} {b : Val} {E : List Ety} (hu : UpB (E.map Prod.fst)) : UpB ((insE k b E).map Prod.fst) := by
 by_cases h : k ∈ E.map Prod.fst
 ·rw [keys_in h]; exact hu
 ·rw [keys_new h]; exact up_insK hu h
theorem look_cons_ (k k2 : Bs) (v : Val) (E : List Ety) : lookE k ((k2, v) :: E) = if k2 = k then some v else lookE k E := by
 unfold lookE
 rw [List.find?_cons]
 by_cases h : k2 = k
 ·rw [decide_eq_true h, if_pos h]; rfl
 ·rw [decide_eq_false h, if_neg h]
theorem look_app_ (k : Bs) (E F : List Ety) : lookE k (E ++ F) = (lookE k E).or (lookE k F) := by
 unfold lookE
 rw [List.find?_append, Option.map_or]
theorem look_ins (k k2 : Bs) (b : Val) (E : List Ety) : lookE k2 (insE k b E) = if k2 = k then some b else lookE k2 E := by
 unfold insE
 by_cases h : k ∈ E.map Prod.fst
 ·rw [if_pos h]
  induction E with
  | nil => cases h
  | cons e E ih =>
   obtain ⟨a, v⟩ := e
   rw [List.map_cons]
   by_cases ha : a = k
   ·subst ha
    rw [if_pos rfl, look_cons_, look_cons_]
    by_cases h2 : k2 = a
    ·rw [if_pos h2.symm, if_pos h2]
    ·rw [if_neg (fun e => h2 e.symm), if_neg h2, if_neg (fun e => h2 e.symm)]
     by_cases hin : a ∈ E.map Prod.fst
     ·rw [ih hin, if_neg h2]
     ·congr 1
      rw [List.map_congr_left (g := id), List.map_id]
      intro e he
      rw [if_neg]
      ·rfl
      ·intro e2
       exact hin (List.mem_map.2 ⟨e, he, e2⟩)
   ·rw [if_neg (show ¬ (a, v).1 = k from ha), look_cons_, look_cons_]
    have hin : k ∈ E.map Prod.fst := by
     rcases List.mem_cons.1 h with h | h
     ·exact absurd h.symm ha
     ·exact h
    rw [ih hin]
    by_cases h2 : a = k2
    ·rw [if_pos h2, if_pos h2, if_neg (fun e => ha (h2.trans e))]
    ·rw [if_neg h2, if_neg h2]
 ·rw [if_neg h, look_app_, look_cons_]
  have hE : E = E.take (lowB k (E.map Prod.fst)) ++ E.drop (lowB k (E.map Prod.fst)) := (List.take_append_drop ..).symm
  by_cases h2 : k2 = k
  ·subst h2
   rw [if_pos rfl, if_pos rfl, look_no]
   ·rfl
   ·intro hin
    exact h (by rw [List.map_take] at hin; exact List.mem_of_mem_take hin)
  ·rw [if_neg (fun e => h2 e.symm), if_neg h2]
   rw [← look_app_, ← hE]
structure TS where
 E : List Ety
 clk : Nat
 es : List ME
def TS.keys (T : TS) : List Bs := T.E.map Prod.fst
structure OkTS (T : TS) : Prop where
 up : UpB T.keys
 look : ∀ k, mpLook (bs k) T.es = (lookE k T.E).map encV
def TS.put (T : TS) (k : Bs) (b : Val) : TS := ⟨insE k b T.E, mpClk T.clk (bs k) T.es, mpPut T.clk (bs k) (encV b) T.es⟩
theorem OkTS.put {T : TS} (h : OkTS T) (k : Bs) (b : Val) : OkTS (T.put k b) where
 up := up_ins h.up
 look k2 := by
  show mpLook (bs k2) (mpPut T.clk (bs k) (encV b) T.es) = (lookE k2 (insE k b T.E)).map encV
  rw [look_put, look_ins, h.look]
  by_cases h2 : k2 = k
  ·rw [if_pos (bs_iff.2 h2), if_pos h2]; rfl
  ·rw [if_neg (fun e => h2 (bs_iff.1 e)), if_neg h2]
abbrev Su := Bs × Int
def encSu (e : Su) : MV := .agg [.str (bs e.1), .int .u64 e.2]
theorem cl_encSu (n : Nat) (e : Su) : Cl n (encSu e) := .agg _ fun x hx => by
 simp only [List.mem_cons, List.not_mem_nil, or_false] at hx
 rcases hx with rfl | rfl
 ·exact .str _
 ·exact .int _ _
theorem cl_ens (n : Nat) (l : List Ety) : Cl n (.lst none 6 (l.map encEn)) := zA7 (cl_encEn _) (fun e => .inl (encEn_one e))
theorem cl_sus (n : Nat) (l : List Su) : Cl n (.lst none 2 (l.map encSu)) := zA7 (cl_encSu _) (fun e => .inl rfl)
def leK (a b : Bs) : Bool := Op.bytesLess a b || a == b
def lastK (ks : List Bs) : Nat → Bs
 | 0 => []
 | j + 1 => ks.getD j []
def rowP (t : List Tbl) (ks : List Bs) (j : Nat) : Bool := (findP t (ks.getD j [])).isSome && !leK (ks.getD j []) (lastK ks j)
def rowF (t : List Tbl) (ks : List Bs) : Bool := (List.range ks.length).all (rowP t ks) && decide (ks.length ≤ 24)
theorem row_yes {t : List Tbl} {ks : List Bs} (h : ∀ j < ks.length, rowP t ks j = true) : rowF t ks = decide (ks.length ≤ 24) := by
 unfold rowF
 rw [List.all_eq_true.2 (fun j hj => h j (List.mem_range.1 hj)), Bool.true_and]
theorem row_no {t : List Tbl} {ks : List Bs} {j : Nat} (hj : j < ks.length) (h : rowP t ks j = false) : rowF t ks = false := by
 unfold rowF
 rw [List.all_eq_false.2 ⟨j, List.mem_range.2 hj, by rw [h]; decide⟩, Bool.false_and]
theorem rowP_no {t : List Tbl} {ks : List Bs} {j : Nat} {kx : Bs} {fb : Bool} (hg : ks.getD j [] = kx) (hf : (findP t kx).isSome = fb) (h : (!fb) = true ∨ leK kx (lastK ks j) = true) : rowP t ks j = false := by
 unfold rowP
 rw [hg, hf]
 rcases h with h | h
 ·cases fb
  ·rfl
  ·cases h
 ·rw [h]
  exact Bool.and_false _
theorem rowP_yes {t : List Tbl} {ks : List Bs} {j : Nat} {kx : Bs} {fb : Bool} (hg : ks.getD j [] = kx) (hf : (findP t kx).isSome = fb) (h1 : (!fb) = false) (h2 : leK kx (lastK ks j) = false) : rowP t ks j = true := by
 unfold rowP
 rw [hg, hf, h2]
 cases fb
 ·cases h1
 ·rfl
theorem get_box4L {A R : MS} {a b c d a' b' c' d' e : MObj} : ((A ++ [a, b, c, d, e]) ++ R)[(A ++ [a', b', c', d']).length]? = some e := by
 rw [zG, zN, getElem?_own]
 rfl
theorem keyE_spec (e : Ety) (S : MS) : MCalls Tryz.prog 121 [encEn e] S fun v σ' => v = .str (bs e.1) ∧ σ' = S := by
 obtain ⟨kx, ⟨n1, m1, s1, c1, w1⟩⟩ := e
 refine zM Tryz.func121 V Tryz.ntmps121 (zA V) ?_
 refine zB <| qR V <| qB V V V V V <| qA V V V <| qN <| zB <| qR V <| qF V V V fo132_0 <| qL V V V V ta9 V <| qA V V V <| qN <| zI ?_
 exact zR (.inr V) Tryz.results121 V (.of_eq (V)) (.str _) Vv
theorem keyS_spec (e : Su) (S : MS) : MCalls Tryz.prog 61 [encSu e] S fun v σ' => v = .str (bs e.1) ∧ σ' = S := by
 obtain ⟨kx, n1⟩ := e
 refine zM Tryz.func61 V Tryz.ntmps61 (zA V) ?_
 refine zB <| qR V <| qB V V V V V <| qA V V V <| qN <| zB <| qR V <| qF V V V fo113_0 <| qL V V V V ta9 V <| qA V V V <| qN <| zI ?_
 exact zR (.inr V) Tryz.results61 V (.of_eq (V)) (.str _) Vv
theorem _root_.zF2 : type_of% @Tryz.underlying28 := @Tryz.underlying28
theorem valuesE_iter (l : List Ety) (hlen : l.length ≤ maxLen) (bid l0 : Nat) : IterOk Tryz.prog 216 [] [.ref bid 0] (l.map fun x => [encEn x]) (fun σ => (σ.length = l0 ∧ σ[bid]? = some (.cells [(.lst none 6 (l.map encEn))])) ∧ ClS σ) := by
 refine iterOk_of fun id T m hok hm hyt hyf => ?_
 have hml : (l.map fun x => [encEn x]).length = l.length := zF ..
 refine zM Tryz.func216 V Tryz.ntmps216 (zA V) ?_
 rw [List.append_nil]
 show mwp _ _ _ _ _ _ _ (([] : MS) ++ T 0)
 refine zB <| qR V <| qO V <| zP V V (hok _).1.2 ta28 V <| qE V V zF2 V <| qM V V V <| qN <| zX ?_
 refine zS1 (α := Nat × MS) [(0, _), (5, _), (6, _)] (fun x => [(7, .int .i64 (x.1 : Int))]) (fun x => T x.1 ++ x.2) (fun x => x.1 ≤ m) (fun x => l.length - x.1) (⟨0, []⟩) (.keep V (.keep V (.keep V (.nil)))) (.keep V (.nil)) (by simp) (by rw [List.append_nil]) ?_
 rintro ⟨j, J⟩ hj
 dsimp only at hj ⊢
 refine zB <| qR V <| qC V V V V V <| qN <| zB ?_
 refine zJ V (fun h8 => ?_) (fun h8 => ?_)
 ·
  rw [zF] at h8
  have hlt : j < l.length := by simpa using h8
  obtain ⟨⟨kx, ⟨n1, m1, s1, c1, w1⟩⟩, hs⟩ : ∃ x, l[j]? = some x := ⟨_, zC hlt⟩
  have hy : (l.map fun x => [encEn x])[j]? = some [encEn (kx, .mk n1 m1 s1 c1 w1)] := by rw [zH0, hs]; rfl
  refine zQ <| zB <| zX <| zB <| qR V <| qO V <| zK V zF2 sz132 (by decide) V V V (zE1 hs) ?_
  refine qO V <| zO V V ta132 V <| qO V <| zA4 V zm132 <| qO V <| zD2 V V V sz132 V V (zA V) <| qN <| zB ?_
  rcases Nat.lt_or_eq_of_le hj with hjm | hjm
  ·
   refine qR V <| qM V V V <| qO V <| zM6 V V ta132 V <| qO V <| (hyt j _ hjm hy).at2 V V V <| qO V <| zC1 V V <| qN <| zL V (V) <| zQ <| qR V <| qO V <| zT0 V V V V <| qM V V V <| qN ?_
   refine ⟨⟨j + 1, J ++ [_]⟩, by dsimp only; omega, by dsimp only; omega, zN .., (.keep V (.keep V (.keep V (.nil)))), (.eq V (zQ1 hlt hlen) (.nil))⟩
  ·
   refine qR V <| qM V V V <| qO V <| zM6 V V ta132 V <| qO V <| (hyf j _ hjm hy).at2 V V V <| qO V <| zC1 V V <| qN <| zT V (V) <| zI ?_
   rw [zN]
   exact zB2 (S' := T (j + 1)) (by simp) Tryz.results216 (by rw [(hok _).1.1, (hok _).1.1]; exact Nat.le_refl _) (hok _).2 ⟨rfl, by rw [hjm, if_pos (by omega)]⟩
 ·
  rw [zF] at h8
  have hge : j = l.length := by simp at h8; omega
  have hjm : j = m := by omega
  refine zM1 ?_
  exact zB2 (S' := T j) (by simp) Tryz.results216 (by rw [(hok _).1.1, (hok _).1.1]; exact Nat.le_refl _) (hok _).2 ⟨rfl, by rw [hjm, if_neg (by omega)]⟩
theorem valuesE_spec (l : List Ety) (S : MS) : MCalls Tryz.prog 168 [(.lst none 6 (l.map encEn))] S fun v σ' => v = .fn (.func 216) [] [.ref S.length 0] ∧ σ' = S ++ [.cells [(.lst none 6 (l.map encEn))]] := by
 refine zM Tryz.func168 V Tryz.ntmps168 (zA V) ?_
 refine zB <| qR V <| qB V V V V V <| qA V V V <| qN <| zB <| qR V <| qO V <| zO2 V V V <| qA V V V <| qN ?_
 refine zW0 fun hcv hcl => ?_
 refine zI ?_
 exact ret_tmpT (.inr V) Tryz.results168 V (.refl _) (hcv 2 _ rfl) (by simp) hcl Vv
theorem rowE_cl {t : List Tbl} {l : List Ety} {b : Bool} {k : Bs} {o : MObj} {d : Nat} (ho : o ∈ [MObj.cells [.lst none 4 (t.map encTb)], .cells [.fn (.func 121) [] []], .cells [.bool b], .cells [.str (bs k)], .cells [(.lst none 6 (l.map encEn))]]) : o.cl d := by
 simp only [List.mem_cons, List.not_mem_nil, or_false] at ho
 rcases ho with rfl | rfl | rfl | rfl | rfl
 ·intro x hx
  simp at hx
  subst hx
  exact cl_tbs _ _
 ·intro x hx
  simp at hx
  subst hx
  exact .fn _ _ _ (fun x hx => by cases hx) (fun x hx => by cases hx)
 ·intro x hx
  simp at hx
  subst hx
  exact .bool _
 ·intro x hx
  simp at hx
  subst hx
  exact .str _
 ·intro x hx
  simp at hx
  subst hx
  exact cl_ens _ _
theorem isRowE_spec (t : List Tbl) (l : List Ety) (S : MS) : MCalls Tryz.prog 120 [.lst none 4 (t.map encTb), .lst none 6 (l.map encEn), .fn (.func 121) [] []] S fun v σ' => v = .bool (rowF t (l.map Prod.fst)) ∧ σ' = S := by
 refine zM Tryz.func120 V Tryz.ntmps120 (zA V) ?_
 refine zB <| qR V <| qB V V V V V <| qB V V V V V <| qO V <| zN0 V zm4 V V <| qN <| zB <| qR V <| qO V <| zN0 V zm9 V V <| qO V <| zC0 V V V V sz9 V V (zA V) V <| qN <| zB <| zB <| qR V <| qM V V V ?_
 refine qX V V V V co168 (valuesE_spec l _) ?_
 rw [zN S]
 refine qN <| zX ?_
 refine zL3 (t := 1) V fun hlen => ?_
 rw [zF] at hlen
 refine mwp_rangeB (ok := fun σ => σ.length = S.length + 6 ∧ σ[(S ++ [MObj.cells [.lst none 4 (t.map encTb)], .cells [.fn (.func 121) [] []], .cells [.bool false], .cells [.str (bs [])]]).length]? = some (.cells [.lst none 6 (l.map encEn)])) (ys := l.map fun x => [encEn x]) .ret (.inl V) (fun j => rowP t (l.map Prod.fst) j) (fun j => ([.cells [.lst none 4 (t.map encTb)], .cells [.fn (.func 121) [] []], .cells [.bool false], .cells [.str (bs (lastK (l.map Prod.fst) j))], .cells [(.lst none 6 (l.map encEn))]] : MS)) (fun j => ([.cells [.lst none 4 (t.map encTb)], .cells [.fn (.func 121) [] []], .cells [.bool false], .cells [.str (bs (lastK (l.map Prod.fst) j))], .cells [(.lst none 6 (l.map encEn))]] : MS)) (fun j => V) (fun j => V) V (fun j o ho n hn => rowE_cl ho) (fun j o ho n hn => rowE_cl ho) V co216 V (by simp) (valuesE_iter l hlen _ _) (fun j => ⟨by simp only [zG, zF0, List.length_nil], get_box4L⟩) (fun j s q => ⟨by simp only [zG, zF0, List.length_nil], get_box4L⟩) V (fun y hy => by obtain ⟨i, _, rfl⟩ := List.mem_map.1 hy; rfl) ?_ ?_ ?_
 ·
  intro j y hy hbef L'
  rw [zH0] at hy
  obtain ⟨⟨kx, ⟨n1, m1, s1, c1, w1⟩⟩, hs, rfl⟩ := Option.map_eq_some_iff.1 hy
  have hjl := (zD.1 hs).1
  have hgx : (l.map Prod.fst).getD j [] = kx := by simp [hs]
  have hln : lastK (l.map Prod.fst) (j + 1) = kx := hgx
  refine qR V <| qO V <| zA4 V zm132 <| qO V <| zD2 V V V sz132 V V (zA V) <| qN ?_
  refine ⟨rfl, [_], rfl, ?_⟩
  rw [zN (S ++ _)]
  refine mwp_abs fun R hR => ?_
  obtain ⟨⟨fn, fl, ⟨fk, fi⟩⟩, hft⟩ : ∃ z, (findP t kx).getD tb0 = z := ⟨_, rfl⟩
  obtain ⟨fb, hfb⟩ : ∃ z, (findP t kx).isSome = z := ⟨_, rfl⟩
  have hfs := find_spec t kx
  rw [hft, hfb] at hfs
  refine zX <| zB <| qR V <| qO V <| zV3 V V V ta190 V <| qO V <| zP V V (by rw [hR]; exact get_rt) ta132 V ?_
  refine qX V V V V co121 (keyE_spec (kx, .mk n1 m1 s1 c1 w1) _) ?_
  refine qA V V V <| qN <| zB <| zB <| qR V <| qO V <| zV3 V V V ta39 V <| qM V V V ?_
  refine qX V V V V co20 (hfs _) ?_
  refine qM V V V <| qO V <| zJ0 V V V <| qO V <| zJ0 V V V <| qO V <| zA4 V zm55 <| qO V <| zD2 V V V sz55 V V (zA V) <| qA V V V <| qN <| zB ?_
  rw [zN (S ++ _)]
  refine qR V <| qM V V V <| qO V <| zC1 V V <| qM V V V ?_
  refine zZ (fun h26 => ?_) (fun h26 => ?_)
  ·
   refine qS V <| qS V <| qS V <| qP V V V V <| qN <| zT V (V) <| zB <| qR V <| qO V <| zJ3 V V V V sz4 V V (zA V) V <| qN <| zI ?_
   exact .inr ⟨rowP_no hgx hfb (by first | exact .inl h26 | exact .inr h30), rfl, [_, _], by rw [hR]; simp only [zN, List.cons_append, List.nil_append]; rfl⟩
  ·
   refine qM V V V <| qO V <| zV3 V V V ta9 V <| qO V <| zS2 V V V V <| qP V V V V <| qN ?_
   refine zJ V (fun h30 => ?_) (fun h30 => ?_)
   ·
    refine zB <| qR V <| qO V <| zJ3 V V V V sz4 V V (zA V) V <| qN <| zI ?_
    exact .inr ⟨rowP_no hgx hfb (by first | exact .inl h26 | exact .inr h30), rfl, [_, _], by rw [hR]; simp only [zN, List.cons_append, List.nil_append]; rfl⟩
   ·
    refine zQ <| qR V <| qM V V V <| qO V <| zJ3 V V V V sz9 V V (zA V) V <| qN ?_
    exact .inl ⟨rowP_yes hgx hfb h26 h30, rfl, [_, _], by rw [hln, hR]; simp only [zN, List.cons_append, List.nil_append]; rfl⟩
 ·
  intro hall
  rw [zN S, zF]
  have hr : decide (l.length ≤ 24) = rowF t (l.map Prod.fst) := by
   rw [row_yes fun j hj => hall j (by rw [zF] at hj ⊢; exact hj), zF]
  refine zB <| qR V <| qM V V V <| qE V V zF2 V <| qC V V V V ((show _ = some (decide (l.length ≤ 24)) by rw [zF]; exact leqN)) ?_
  refine qO V <| zC0 V V V V sz4 V V (zA V) V <| qN <| zI ?_
  exact zK2 (.inr V) Tryz.results120 V V ta4 V (.refl _) (.bool _) ⟨by rw [hr], rfl⟩
 ·
  intro j y hy hp
  have hr : false = rowF t (l.map Prod.fst) := (row_no (by have := (zD.1 hy).1; rw [zF] at this ⊢; exact this) hp).symm
  rw [zN S]
  exact zK2 (.inr V) Tryz.results120 V V ta4 V (.refl _) (.bool _) ⟨by rw [hr], rfl⟩
theorem _root_.zR2 : type_of% @Tryz.underlying29 := @Tryz.underlying29
theorem valuesS_iter (l : List Su) (hlen : l.length ≤ maxLen) (bid l0 : Nat) : IterOk Tryz.prog 169 [] [.ref bid 0] (l.map fun x => [encSu x]) (fun σ => (σ.length = l0 ∧ σ[bid]? = some (.cells [(.lst none 2 (l.map encSu))])) ∧ ClS σ) := by
 refine iterOk_of fun id T m hok hm hyt hyf => ?_
 have hml : (l.map fun x => [encSu x]).length = l.length := zF ..
 refine zM Tryz.func169 V Tryz.ntmps169 (zA V) ?_
 rw [List.append_nil]
 show mwp _ _ _ _ _ _ _ (([] : MS) ++ T 0)
 refine zB <| qR V <| qO V <| zP V V (hok _).1.2 ta29 V <| qE V V zR2 V <| qM V V V <| qN <| zX ?_
 refine zS1 (α := Nat × MS) [(0, _), (5, _), (6, _)] (fun x => [(7, .int .i64 (x.1 : Int))]) (fun x => T x.1 ++ x.2) (fun x => x.1 ≤ m) (fun x => l.length - x.1) (⟨0, []⟩) (.keep V (.keep V (.keep V (.nil)))) (.keep V (.nil)) (by simp) (by rw [List.append_nil]) ?_
 rintro ⟨j, J⟩ hj
 dsimp only at hj ⊢
 refine zB <| qR V <| qC V V V V V <| qN <| zB ?_
 refine zJ V (fun h8 => ?_) (fun h8 => ?_)
 ·
  rw [zF] at h8
  have hlt : j < l.length := by simpa using h8
  obtain ⟨⟨kx, n1⟩, hs⟩ : ∃ x, l[j]? = some x := ⟨_, zC hlt⟩
  have hy : (l.map fun x => [encSu x])[j]? = some [encSu (kx, n1)] := by rw [zH0, hs]; rfl
  refine zQ <| zB <| zX <| zB <| qR V <| qO V <| zK V zR2 sz113 (by decide) V V V (zE1 hs) ?_
  refine qO V <| zO V V ta113 V <| qO V <| zA4 V zm113 <| qO V <| zD2 V V V sz113 V V (zA V) <| qN <| zB ?_
  rcases Nat.lt_or_eq_of_le hj with hjm | hjm
  ·
   refine qR V <| qM V V V <| qO V <| zM6 V V ta113 V <| qO V <| (hyt j _ hjm hy).at2 V V V <| qO V <| zC1 V V <| qN <| zL V (V) <| zQ <| qR V <| qO V <| zT0 V V V V <| qM V V V <| qN ?_
   refine ⟨⟨j + 1, J ++ [_]⟩, by dsimp only; omega, by dsimp only; omega, zN .., (.keep V (.keep V (.keep V (.nil)))), (.eq V (zQ1 hlt hlen) (.nil))⟩
  ·
   refine qR V <| qM V V V <| qO V <| zM6 V V ta113 V <| qO V <| (hyf j _ hjm hy).at2 V V V <| qO V <| zC1 V V <| qN <| zT V (V) <| zI ?_
   rw [zN]
   exact zB2 (S' := T (j + 1)) (by simp) Tryz.results169 (by rw [(hok _).1.1, (hok _).1.1]; exact Nat.le_refl _) (hok _).2 ⟨rfl, by rw [hjm, if_pos (by omega)]⟩
 ·
  rw [zF] at h8
  have hge : j = l.length := by simp at h8; omega
  have hjm : j = m := by omega
  refine zM1 ?_
  exact zB2 (S' := T j) (by simp) Tryz.results169 (by rw [(hok _).1.1, (hok _).1.1]; exact Nat.le_refl _) (hok _).2 ⟨rfl, by rw [hjm, if_neg (by omega)]⟩
theorem valuesS_spec (l : List Su) (S : MS) : MCalls Tryz.prog 122 [(.lst none 2 (l.map encSu))] S fun v σ' => v = .fn (.func 169) [] [.ref S.length 0] ∧ σ' = S ++ [.cells [(.lst none 2 (l.map encSu))]] := by
 refine zM Tryz.func122 V Tryz.ntmps122 (zA V) ?_
 refine zB <| qR V <| qB V V V V V <| qA V V V <| qN <| zB <| qR V <| qO V <| zO2 V V V <| qA V V V <| qN ?_
 refine zW0 fun hcv hcl => ?_
 refine zI ?_
 exact ret_tmpT (.inr V) Tryz.results122 V (.refl _) (hcv 2 _ rfl) (by simp) hcl Vv
theorem rowS_cl {t : List Tbl} {l : List Su} {b : Bool} {k : Bs} {o : MObj} {d : Nat} (ho : o ∈ [MObj.cells [.lst none 4 (t.map encTb)], .cells [.fn (.func 61) [] []], .cells [.bool b], .cells [.str (bs k)], .cells [(.lst none 2 (l.map encSu))]]) : o.cl d := by
 simp only [List.mem_cons, List.not_mem_nil, or_false] at ho
 rcases ho with rfl | rfl | rfl | rfl | rfl
 ·intro x hx
  simp at hx
  subst hx
  exact cl_tbs _ _
 ·intro x hx
  simp at hx
  subst hx
  exact .fn _ _ _ (fun x hx => by cases hx) (fun x hx => by cases hx)
 ·intro x hx
  simp at hx
  subst hx
  exact .bool _
 ·intro x hx
  simp at hx
  subst hx
  exact .str _
 ·intro x hx
  simp at hx
  subst hx
  exact cl_sus _ _
theorem isRowS_spec (t : List Tbl) (l : List Su) (S : MS) : MCalls Tryz.prog 60 [.lst none 4 (t.map encTb), .lst none 2 (l.map encSu), .fn (.func 61) [] []] S fun v σ' => v = .bool (rowF t (l.map Prod.fst)) ∧ σ' = S := by
 refine zM Tryz.func60 V Tryz.ntmps60 (zA V) ?_
 refine zB <| qR V <| qB V V V V V <| qB V V V V V <| qO V <| zN0 V zm4 V V <| qN <| zB <| qR V <| qO V <| zN0 V zm9 V V <| qO V <| zC0 V V V V sz9 V V (zA V) V <| qN <| zB <| zB <| qR V <| qM V V V ?_
 refine qX V V V V co122 (valuesS_spec l _) ?_
 rw [zN S]
 refine qN <| zX ?_
 refine zL3 (t := 1) V fun hlen => ?_
 rw [zF] at hlen
 refine mwp_rangeB (ok := fun σ => σ.length = S.length + 6 ∧ σ[(S ++ [MObj.cells [.lst none 4 (t.map encTb)], .cells [.fn (.func 61) [] []], .cells [.bool false], .cells [.str (bs [])]]).length]? = some (.cells [.lst none 2 (l.map encSu)])) (ys := l.map fun x => [encSu x]) .ret (.inl V) (fun j => rowP t (l.map Prod.fst) j) (fun j => ([.cells [.lst none 4 (t.map encTb)], .cells [.fn (.func 61) [] []], .cells [.bool false], .cells [.str (bs (lastK (l.map Prod.fst) j))], .cells [(.lst none 2 (l.map encSu))]] : MS)) (fun j => ([.cells [.lst none 4 (t.map encTb)], .cells [.fn (.func 61) [] []], .cells [.bool false], .cells [.str (bs (lastK (l.map Prod.fst) j))], .cells [(.lst none 2 (l.map encSu))]] : MS)) (fun j => V) (fun j => V) V (fun j o ho n hn => rowS_cl ho) (fun j o ho n hn => rowS_cl ho) V co169 V (by simp) (valuesS_iter l hlen _ _) (fun j => ⟨by simp only [zG, zF0, List.length_nil], get_box4L⟩) (fun j s q => ⟨by simp only [zG, zF0, List.length_nil], get_box4L⟩) V (fun y hy => by obtain ⟨i, _, rfl⟩ := List.mem_map.1 hy; rfl) ?_ ?_ ?_
 ·
  intro j y hy hbef L'
  rw [zH0] at hy
  obtain ⟨⟨kx, n1⟩, hs, rfl⟩ := Option.map_eq_some_iff.1 hy
  have hjl := (zD.1 hs).1
  have hgx : (l.map Prod.fst).getD j [] = kx := by simp [hs]
  have hln : lastK (l.map Prod.fst) (j + 1) = kx := hgx
  refine qR V <| qO V <| zA4 V zm113 <| qO V <| zD2 V V V sz113 V V (zA V) <| qN ?_
  refine ⟨rfl, [_], rfl, ?_⟩
  rw [zN (S ++ _)]
  refine mwp_abs fun R hR => ?_
  obtain ⟨⟨fn, fl, ⟨fk, fi⟩⟩, hft⟩ : ∃ z, (findP t kx).getD tb0 = z := ⟨_, rfl⟩
  obtain ⟨fb, hfb⟩ : ∃ z, (findP t kx).isSome = z := ⟨_, rfl⟩
  have hfs := find_spec t kx
  rw [hft, hfb] at hfs
  refine zX <| zB <| qR V <| qO V <| zV3 V V V ta114 V <| qO V <| zP V V (by rw [hR]; exact get_rt) ta113 V ?_
  refine qX V V V V co61 (keyS_spec (kx, n1) _) ?_
  refine qA V V V <| qN <| zB <| zB <| qR V <| qO V <| zV3 V V V ta39 V <| qM V V V ?_
  refine qX V V V V co20 (hfs _) ?_
  refine qM V V V <| qO V <| zJ0 V V V <| qO V <| zJ0 V V V <| qO V <| zA4 V zm55 <| qO V <| zD2 V V V sz55 V V (zA V) <| qA V V V <| qN <| zB ?_
  rw [zN (S ++ _)]
  refine qR V <| qM V V V <| qO V <| zC1 V V <| qM V V V ?_
  refine zZ (fun h26 => ?_) (fun h26 => ?_)
  ·
   refine qS V <| qS V <| qS V <| qP V V V V <| qN <| zT V (V) <| zB <| qR V <| qO V <| zJ3 V V V V sz4 V V (zA V) V <| qN <| zI ?_
   exact .inr ⟨rowP_no hgx hfb (by first | exact .inl h26 | exact .inr h30), rfl, [_, _], by rw [hR]; simp only [zN, List.cons_append, List.nil_append]; rfl⟩
  ·
   refine qM V V V <| qO V <| zV3 V V V ta9 V <| qO V <| zS2 V V V V <| qP V V V V <| qN ?_
   refine zJ V (fun h30 => ?_) (fun h30 => ?_)
   ·
    refine zB <| qR V <| qO V <| zJ3 V V V V sz4 V V (zA V) V <| qN <| zI ?_
    exact .inr ⟨rowP_no hgx hfb (by first | exact .inl h26 | exact .inr h30), rfl, [_, _], by rw [hR]; simp only [zN, List.cons_append, List.nil_append]; rfl⟩
   ·
    refine zQ <| qR V <| qM V V V <| qO V <| zJ3 V V V V sz9 V V (zA V) V <| qN ?_
    exact .inl ⟨rowP_yes hgx hfb h26 h30, rfl, [_, _], by rw [hln, hR]; simp only [zN, List.cons_append, List.nil_append]; rfl⟩
 ·
  intro hall
  rw [zN S, zF]
  have hr : decide (l.length ≤ 24) = rowF t (l.map Prod.fst) := by
   rw [row_yes fun j hj => hall j (by rw [zF] at hj ⊢; exact hj), zF]
  refine zB <| qR V <| qM V V V <| qE V V zR2 V <| qC V V V V ((show _ = some (decide (l.length ≤ 24)) by rw [zF]; exact leqN)) ?_
  refine qO V <| zC0 V V V V sz4 V V (zA V) V <| qN <| zI ?_
  exact zK2 (.inr V) Tryz.results60 V V ta4 V (.refl _) (.bool _) ⟨by rw [hr], rfl⟩
 ·
  intro j y hy hp
  have hr : false = rowF t (l.map Prod.fst) := (row_no (by have := (zD.1 hy).1; rw [zF] at this ⊢; exact this) hp).symm
  rw [zN S]
  exact zK2 (.inr V) Tryz.results60 V V ta4 V (.refl _) (.bool _) ⟨by rw [hr], rfl⟩
abbrev Mm := Int × Int
abbrev Cp := Bs × Int × Int
def encMm (e : Mm) : MV := .agg [.int .i64 e.1, .int .u64 e.2]
def encCp (e : Cp) : MV := .agg [.str (bs e.1), .int .u64 e.2.1, .int .u64 e.2.2]
def encVw (m : List Mm) (c : List Cp) : MV := .agg [.lst none 2 (m.map encMm), .lst none 3 (c.map encCp)]
def ofP (k c : Int) : Bool × Bool × Bool × Bool × Bool :=
 if k = 1 then (true, true, false, false, false) else if k = 2 ∨ k = 3 then (true, false, false, false, false) else if k = 4 then (true, decide (c = 0), false, false, false)
 else if k = 5 ∨ k = 7 ∨ k = 8 then (false, false, true, false, false) else if k = 6 then (false, false, false, true, false) else if k = 9 then (false, false, false, false, true) else (false, false, false, false, false)
def encPt (p : Bool × Bool × Bool × Bool × Bool) : MV := .agg [.bool p.1, .bool p.2.1, .bool p.2.2.1, .bool p.2.2.2.1, .bool p.2.2.2.2]
theorem cl_encPt (n : Nat) (p : Bool × Bool × Bool × Bool × Bool) : Cl n (encPt p) := .agg _ fun x hx => by
 simp only [List.mem_cons, List.not_mem_nil, or_false] at hx
 rcases hx with rfl | rfl | rfl | rfl | rfl <;> exact .bool _
theorem _root_.zQ6 : type_of% @cl_encPt := @cl_encPt
def encLt (k f t i c : Int) (key : Bs) : Val → List Ety → List Su → List Mm → List Cp → MV
 | .mk n m s q w, es, su, mm, cp => .agg [.int .i64 k, .int .i64 f, .int .i64 t, .int .u64 i, .int .i64 c, .str (bs key), .int .u64 n, .int .u64 m, .lst none 1 (s.map encX), .lst none 1 (q.map encC), .lst none 5 (encVs w),
  .lst none 6 (es.map encEn), .lst none 2 (su.map encSu), .lst none 2 (mm.map encMm), .lst none 3 (cp.map encCp)]
def placeF (n : Int) : Bool := decide (0 ≤ n) && decide (n < 4) || decide (100 ≤ n) && decide (n < 103)
noncomputable def okVal (t : List Tbl) (key : Bs) (v : Val) : Bool := match findP t key with
 | some x => isF 16 x.2.2 && isVF x.2.2 v
 | none => false
noncomputable def entP (t : List Tbl) (none_ : Bool) (e : Ety) : Bool := okVal t e.1 e.2 && (none_ || !noneF ((findP t e.1).getD tb0).2.2 e.2)
noncomputable def entsF (t : List Tbl) (es : List Ety) (none_ : Bool) : Bool := es.all (entP t none_) && rowF t (es.map Prod.fst)
theorem _root_.zD3 : type_of% @Tryz.underlying30 := @Tryz.underlying30
theorem mmEqual_spec (a b : List Mm) (S : MS) : MCalls Tryz.prog 137 [.lst none 2 (a.map encMm), .lst none 2 (b.map encMm)] S fun v σ' => v = .bool (decide (a = b)) ∧ σ' = S := by
 refine zM Tryz.func137 V Tryz.ntmps137 (zA V) ?_
 refine zL3 (t := 0) V fun hlen => ?_
 rw [zF] at hlen
 refine zB <| qR V <| qA V V V <| qN <| zB <| zB <| qR V <| qM V V V <| qE V V zD3 V <| qM V V V <| qE V V zD3 V <| qC V V V V V <| qN ?_
 refine zJ V (fun h10 => ?_) (fun h10 => ?_)
 ·
  refine zB <| qR V <| qA V V V <| qN <| zI ?_
  exact zR (.inr V) Tryz.results137 V (.of_eq (by congr 1; symm; rw [decide_eq_false_iff_not]; intro e; subst e; simp at h10)) (.bool _) Vv
 ·
  have hab : a.length = b.length := by simp at h10; omega
  refine zQ <| zB <| zB <| qR V <| qM V V V <| qE V V zD3 V <| qM V V V <| qN <| zX ?_
  refine zS1 (α := Nat) [(0, _), (1, _), (12, _)] (fun i => [(13, .int .i64 (i : Int))]) (fun i => []) (fun i => i ≤ a.length ∧ a.take i = b.take i) (fun i => a.length - i) (0) (.keep V (.keep V (.keep V (.nil)))) (.keep V (.nil)) (⟨by omega, rfl⟩) (V) ?_
  rintro i ⟨hi, heq⟩
  refine zB <| qR V <| qC V V V V V <| qN <| zB ?_
  refine zJ V (fun h14 => ?_) (fun h14 => ?_)
  ·
   have hlt : i < a.length := by simpa using h14
   obtain ⟨x, hs⟩ : ∃ q_, a[i]? = some q_ := ⟨_, zC hlt⟩
   obtain ⟨y, hs2⟩ : ∃ s, b[i]? = some s := ⟨_, zC (by omega)⟩
   refine zQ <| zB <| zX <| zB <| qR V <| qM V V V <| qA V V V <| qN <| zB ?_
   refine zX0 [] [_] mo (by decide) V V V V ?_
   refine dO V V V (zY V V Vv) <| dO V V V (zY V V Vv) <| dO V V V (zK V zD3 sz184 (by decide) V V V (zE1 hs) Vv) ?_
   refine dO V V V (zO V V ta184 V Vv) <| dO V V V (zY V V Vv) <| dO V V V (zY V V Vv) <| dO V V V (zK V zD3 sz184 (by decide) V V V (zE1 hs2) Vv) ?_
   refine dO V V V (zO V V ta184 V Vv) <| zU V V (.cons (op_eqstruct V (by kernel_rfl) V V V (.inr Vv) Vv) .nil) ?_
   refine zP0 ?_
   refine zJ V (fun h24 => ?_) (fun h24 => ?_)
   ·
    refine zB <| qR V <| qA V V V <| qN <| zI ?_
    exact zR (.inr V) Tryz.results137 V (.of_eq (by congr 1; symm; rw [decide_eq_false_iff_not]; intro e; subst e; rw [hs2] at hs; injection hs with hs; subst hs; simp at h24)) (.bool _) Vv
   ·
    refine zQ <| qR V <| qO V <| zT0 V V V V <| qM V V V <| qN ?_
    refine ⟨i + 1, by omega, ⟨by omega, ?_⟩, rfl, (.keep V (.keep V (.keep V (.nil)))), (.eq V (zQ1 hlt hlen) (.nil))⟩
    rw [List.take_add_one, List.take_add_one, hs, hs2, heq]
    obtain ⟨x1, x2⟩ := x; obtain ⟨y1, y2⟩ := y
    simp at h24
    rw [h24.1, h24.2]
  ·
   have hge : i = a.length := by simp at h14; omega
   refine zM1 <| zB <| qR V <| qA V V V <| qN <| zI ?_
   exact zR (.inr V) Tryz.results137 V (.of_eq (by congr 1; symm; rw [decide_eq_true_iff]; rw [hge, List.take_length, hab, List.take_length] at heq; exact heq)) (.bool _) Vv
theorem _root_.zP3 : type_of% @Tryz.underlying31 := @Tryz.underlying31
theorem cpEqual_spec (a b : List Cp) (S : MS) : MCalls Tryz.prog 138 [.lst none 3 (a.map encCp), .lst none 3 (b.map encCp)] S fun v σ' => v = .bool (decide (a = b)) ∧ σ' = S := by
 refine zM Tryz.func138 V Tryz.ntmps138 (zA V) ?_
 refine zL3 (t := 0) V fun hlen => ?_
 rw [zF] at hlen
 refine zB <| qR V <| qA V V V <| qN <| zB <| zB <| qR V <| qM V V V <| qE V V zP3 V <| qM V V V <| qE V V zP3 V <| qC V V V V V <| qN ?_
 refine zJ V (fun h10 => ?_) (fun h10 => ?_)
 ·
  refine zB <| qR V <| qA V V V <| qN <| zI ?_
  exact zR (.inr V) Tryz.results138 V (.of_eq (by congr 1; symm; rw [decide_eq_false_iff_not]; intro e; subst e; simp at h10)) (.bool _) Vv
 ·
  have hab : a.length = b.length := by simp at h10; omega
  refine zQ <| zB <| zB <| qR V <| qM V V V <| qE V V zP3 V <| qM V V V <| qN <| zX ?_
  refine zS1 (α := Nat) [(0, _), (1, _), (12, _)] (fun i => [(13, .int .i64 (i : Int))]) (fun i => []) (fun i => i ≤ a.length ∧ a.take i = b.take i) (fun i => a.length - i) (0) (.keep V (.keep V (.keep V (.nil)))) (.keep V (.nil)) (⟨by omega, rfl⟩) (V) ?_
  rintro i ⟨hi, heq⟩
  refine zB <| qR V <| qC V V V V V <| qN <| zB ?_
  refine zJ V (fun h14 => ?_) (fun h14 => ?_)
  ·
   have hlt : i < a.length := by simpa using h14
   obtain ⟨x, hs⟩ : ∃ q_, a[i]? = some q_ := ⟨_, zC hlt⟩
   obtain ⟨y, hs2⟩ : ∃ s, b[i]? = some s := ⟨_, zC (by omega)⟩
   refine zQ <| zB <| zX <| zB <| qR V <| qM V V V <| qA V V V <| qN <| zB ?_
   refine zX0 [] [_] mo (by decide) V V V V ?_
   refine dO V V V (zY V V Vv) <| dO V V V (zY V V Vv) <| dO V V V (zK V zP3 sz187 (by decide) V V V (zE1 hs) Vv) ?_
   refine dO V V V (zO V V ta187 V Vv) <| dO V V V (zY V V Vv) <| dO V V V (zY V V Vv) <| dO V V V (zK V zP3 sz187 (by decide) V V V (zE1 hs2) Vv) ?_
   refine dO V V V (zO V V ta187 V Vv) <| zU V V (.cons (op_eqstruct V (by kernel_rfl) V V V (.inr Vv) Vv) .nil) ?_
   refine zP0 ?_
   refine zJ V (fun h24 => ?_) (fun h24 => ?_)
   ·
    refine zB <| qR V <| qA V V V <| qN <| zI ?_
    exact zR (.inr V) Tryz.results138 V (.of_eq (by congr 1; symm; rw [decide_eq_false_iff_not]; intro e; subst e; rw [hs2] at hs; injection hs with hs; subst hs; simp at h24)) (.bool _) Vv
   ·
    refine zQ <| qR V <| qO V <| zT0 V V V V <| qM V V V <| qN ?_
    refine ⟨i + 1, by omega, ⟨by omega, ?_⟩, rfl, (.keep V (.keep V (.keep V (.nil)))), (.eq V (zQ1 hlt hlen) (.nil))⟩
    rw [List.take_add_one, List.take_add_one, hs, hs2, heq]
    obtain ⟨x1, x2, x3⟩ := x; obtain ⟨y1, y2, y3⟩ := y
    simp at h24
    rw [h24.1, h24.2.1, h24.2.2]
  ·
   have hge : i = a.length := by simp at h14; omega
   refine zM1 <| zB <| qR V <| qA V V V <| qN <| zI ?_
   exact zR (.inr V) Tryz.results138 V (.of_eq (by congr 1; symm; rw [decide_eq_true_iff]; rw [hge, List.take_length, hab, List.take_length] at heq; exact heq)) (.bool _) Vv
theorem viewSame_spec (m m2 : List Mm) (c c2 : List Cp) (S : MS) : MCalls Tryz.prog 72 [encVw m c, encVw m2 c2] S fun v σ' => v = .bool (decide (m = m2 ∧ c = c2)) ∧ σ' = S := by
 refine zM Tryz.func72 V Tryz.ntmps72 (zA V) ?_
 refine zB <| qR V <| qB V V V V V <| qB V V V V V <| qA V V V <| qN <| zB <| qR V <| qF V V V fo33_0 <| qL V V V V ta30 V <| qF V V V fo33_0 <| qL V V V V ta30 V ?_
 refine qX V V V V co137 (mmEqual_spec m m2 _) ?_
 refine qM V V V ?_
 refine zZ (fun h10 => ?_) (fun h10 => ?_)
 ·
  refine qF V V V fo33_1 <| qL V V V V ta31 V <| qF V V V fo33_1 <| qL V V V V ta31 V ?_
  refine qX V V V V co138 (cpEqual_spec c c2 _) ?_
  refine qP V V V V <| qA V V V <| qN <| zI ?_
  exact zR (.inr V) Tryz.results72 V (.of_eq (by congr 1; rw [zH]; simp_all)) (.bool _) Vv
 ·
  refine qT V V V V <| qS V <| qP V V V V <| qA V V V <| qN <| zI ?_
  exact zR (.inr V) Tryz.results72 V (.of_eq (by congr 1; rw [zH]; simp_all)) (.bool _) Vv
theorem _root_.zY2 : type_of% @viewSame_spec := @viewSame_spec
theorem _root_.zH3 : type_of% @Tryz.underlying104 := @Tryz.underlying104
theorem _root_.zJ4 : type_of% @Tryz.results54 := @Tryz.results54
theorem of_spec (k f t i c : Int) (key : Bs) (v : Val) (es : List Ety) (su : List Su) (mm : List Mm) (cp : List Cp) (S : MS) : MCalls Tryz.prog 54 [encLt k f t i c key v es su mm cp] S fun v σ' => v = encPt (ofP k c) ∧ σ' = S := by
 obtain ⟨n, m, s, q, w⟩ := v
 refine zM Tryz.func54 V Tryz.ntmps54 (zA V) ?_
 refine zB <| qR V <| qB V V V V V <| qO V <| zN0 V zm104 V V <| qN <| zB <| zB <| qR V <| qF V V V zJ6 <| qL V V V V ta3 V <| qN <| zX <| zB <| qR V <| qC V V V V V <| qA V V V <| qN ?_
 refine zJ V (fun h5 => ?_) (fun h5 => ?_)
 ·
  refine zB <| qR V <| qO V <| zA1 V zH3 zm104 (.cons fo104_0 sz4 V V (zA V) (.cons fo104_1 sz4 V V (zA V) .nil)) (by kernel_rfl) ?_
  refine qO V <| zC0 V V V V sz104 V V (zA V) V <| qN <| zI ?_
  exact zK2 (.inr V) zJ4 V V ta104 V (.of_eq (by simp_all [ofP, encPt] <;> rfl)) (zQ6 _ _) Vv
 ·
  refine zB <| zB <| qR V <| qC V V V V V <| qA V V V <| qN ?_
  refine zJ V (fun h8 => ?_) (fun h8 => ?_)
  ·
   refine zQ <| zT V h8 <| zB <| qR V <| qO V <| zA1 V zH3 zm104 (.cons fo104_0 sz4 V V (zA V) .nil) (by kernel_rfl) ?_
   refine qO V <| zC0 V V V V sz104 V V (zA V) V <| qN <| zI ?_
   exact zK2 (.inr V) zJ4 V V ta104 V (.of_eq (by simp_all [ofP, encPt] <;> rfl)) (zQ6 _ _) Vv
  ·
   refine qR V <| qC V V V V V <| qA V V V <| qN ?_
   refine zJ V (fun h8 => ?_) (fun h8 => ?_)
   ·
    refine zB <| qR V <| qO V <| zA1 V zH3 zm104 (.cons fo104_0 sz4 V V (zA V) .nil) (by kernel_rfl) ?_
    refine qO V <| zC0 V V V V sz104 V V (zA V) V <| qN <| zI ?_
    exact zK2 (.inr V) zJ4 V V ta104 V (.of_eq (by simp_all [ofP, encPt] <;> rfl)) (zQ6 _ _) Vv
   ·
    refine zB <| qR V <| qC V V V V V <| qA V V V <| qN ?_
    refine zJ V (fun h12 => ?_) (fun h12 => ?_)
    ·
     refine zB <| qR V <| qF V V V fo35_4 <| qL V V V V ta3 V <| qC V V V V V <| qO V <| zA1 V zH3 zm104 (.cons fo104_0 sz4 V V (zA V) (.cons fo104_1 sz4 V V (zA V) .nil)) (by kernel_rfl) ?_
     refine qO V <| zC0 V V V V sz104 V V (zA V) V <| qN <| zI ?_
     exact zK2 (.inr V) zJ4 V V ta104 V (.of_eq (by simp_all [ofP, encPt] <;> rfl)) (zQ6 _ _) Vv
    ·
     refine zB <| zB <| qR V <| qC V V V V V <| qA V V V <| qN ?_
     refine zJ V (fun h18 => ?_) (fun h18 => ?_)
     ·
      refine zQ <| zT V h18 <| zB <| qR V <| qO V <| zA1 V zH3 zm104 (.cons fo104_2 sz4 V V (zA V) .nil) (by kernel_rfl) ?_
      refine qO V <| zC0 V V V V sz104 V V (zA V) V <| qN <| zI ?_
      exact zK2 (.inr V) zJ4 V V ta104 V (.of_eq (by simp_all [ofP, encPt] <;> rfl)) (zQ6 _ _) Vv
     ·
      refine zB <| qR V <| qC V V V V V <| qA V V V <| qN ?_
      refine zJ V (fun h18 => ?_) (fun h18 => ?_)
      ·
       refine zQ <| zT V h18 <| zB <| qR V <| qO V <| zA1 V zH3 zm104 (.cons fo104_2 sz4 V V (zA V) .nil) (by kernel_rfl) ?_
       refine qO V <| zC0 V V V V sz104 V V (zA V) V <| qN <| zI ?_
       exact zK2 (.inr V) zJ4 V V ta104 V (.of_eq (by simp_all [ofP, encPt] <;> rfl)) (zQ6 _ _) Vv
      ·
       refine qR V <| qC V V V V V <| qA V V V <| qN ?_
       refine zJ V (fun h18 => ?_) (fun h18 => ?_)
       ·
        refine zB <| qR V <| qO V <| zA1 V zH3 zm104 (.cons fo104_2 sz4 V V (zA V) .nil) (by kernel_rfl) ?_
        refine qO V <| zC0 V V V V sz104 V V (zA V) V <| qN <| zI ?_
        exact zK2 (.inr V) zJ4 V V ta104 V (.of_eq (by simp_all [ofP, encPt] <;> rfl)) (zQ6 _ _) Vv
       ·
        refine zB <| qR V <| qC V V V V V <| qA V V V <| qN ?_
        refine zJ V (fun h23 => ?_) (fun h23 => ?_)
        ·
         refine zB <| qR V <| qO V <| zA1 V zH3 zm104 (.cons zS6 sz4 V V (zA V) .nil) (by kernel_rfl) ?_
         refine qO V <| zC0 V V V V sz104 V V (zA V) V <| qN <| zI ?_
         exact zK2 (.inr V) zJ4 V V ta104 V (.of_eq (by simp_all [ofP, encPt] <;> rfl)) (zQ6 _ _) Vv
        ·
         refine zB <| qR V <| qC V V V V V <| qA V V V <| qN ?_
         refine zJ V (fun h26 => ?_) (fun h26 => ?_)
         ·
          refine zB <| qR V <| qO V <| zA1 V zH3 zm104 (.cons zR4 sz4 V V (zA V) .nil) (by kernel_rfl) ?_
          refine qO V <| zC0 V V V V sz104 V V (zA V) V <| qN <| zI ?_
          exact zK2 (.inr V) zJ4 V V ta104 V (.of_eq (by simp_all [ofP, encPt] <;> rfl)) (zQ6 _ _) Vv
         ·
          refine zQ <| zB <| qR V <| qO V <| zA1 V zH3 zm104 .nil (by kernel_rfl) ?_
          refine qO V <| zC0 V V V V sz104 V V (zA V) V <| qN <| zI ?_
          exact zK2 (.inr V) zJ4 V V ta104 V (.of_eq (by simp_all [ofP, encPt] <;> rfl)) (zQ6 _ _) Vv
theorem isPlace_spec (n : Int) (S : MS) : MCalls Tryz.prog 55 [.int .i64 n] S fun v σ' => v = .bool (placeF n) ∧ σ' = S := by
 refine zM Tryz.func55 V Tryz.ntmps55 (zA V) ?_
 refine zB <| qR V <| qA V V V <| qN <| zB <| qR V <| qM V V V <| qC V V V V V <| qM V V V ?_
 refine zZ (fun h5 => ?_) (fun h5 => ?_)
 ·
  refine qM V V V <| qC V V V V V <| qP V V V V <| qM V V V ?_
  refine zZ (fun h9 => ?_) (fun h9 => ?_)
  ·
   refine qT V V V V <| qS V <| qS V <| qP V V V V <| qA V V V <| qN <| zI ?_
   exact zR (.inr V) Tryz.results55 V (.of_eq (by congr 1; rw [zH]; simp [placeF] at *; omega)) (.bool _) Vv
  ·
   refine qM V V V <| qC V V V V V <| qM V V V ?_
   refine zZ (fun h12 => ?_) (fun h12 => ?_)
   ·
    refine qM V V V <| qC V V V V V <| qP V V V V <| qP V V V V <| qA V V V <| qN <| zI ?_
    exact zR (.inr V) Tryz.results55 V (.of_eq (by congr 1; rw [zH]; simp [placeF] at *; omega)) (.bool _) Vv
   ·
    refine qS V <| qS V <| qP V V V V <| qP V V V V <| qA V V V <| qN <| zI ?_
    exact zR (.inr V) Tryz.results55 V (.of_eq (by congr 1; rw [zH]; simp [placeF] at *; omega)) (.bool _) Vv
 ·
  refine qS V <| qS V <| qP V V V V <| qM V V V <| qM V V V <| qC V V V V V <| qM V V V ?_
  refine zZ (fun h12 => ?_) (fun h12 => ?_)
  ·
   refine qM V V V <| qC V V V V V <| qP V V V V <| qP V V V V <| qA V V V <| qN <| zI ?_
   exact zR (.inr V) Tryz.results55 V (.of_eq (by congr 1; rw [zH]; simp [placeF] at *; omega)) (.bool _) Vv
  ·
   refine qS V <| qS V <| qP V V V V <| qP V V V V <| qA V V V <| qN <| zI ?_
   exact zR (.inr V) Tryz.results55 V (.of_eq (by congr 1; rw [zH]; simp [placeF] at *; omega)) (.bool _) Vv
theorem isValue_spec (t : List Tbl) (key : Bs) (x : Val) (ov : okV x) (S : MS) : MCalls Tryz.prog 57 [.lst none 4 (t.map encTb), .str (bs key), encV x] S fun v σ' => v = .bool (okVal t key x) ∧ σ' = S := by
 obtain ⟨n, m, s, q, w⟩ := x
 refine zM Tryz.func57 V Tryz.ntmps57 (zA V) ?_
 have hfs := find_spec t key
 refine zB <| qR V <| qB V V V V V <| qA V V V <| qN <| zB ?_
 rcases hf : findP t key with _ | ⟨fn, fl, ⟨fk, fi⟩⟩ <;> rw [hf] at hfs
 ·
  refine qR V <| qM V V V <| qM V V V ?_
  refine qX V V V V co20 (hfs _) ?_
  refine qM V V V <| qO V <| zJ0 V V V <| qO V <| zJ0 V V V <| qO V <| zN0 V zm55 V V <| qO V <| zC0 V V V V sz55 V V (zA V) V <| qA V V V <| qN <| zB <| qR V <| qM V V V <| qM V V V <| qT V V V V <| qP V V V V <| qA V V V <| qN <| zI ?_
  exact zR (.inr V) Tryz.results57 V (.of_eq (by unfold okVal; rw [hf])) (.bool _) Vv
 ·
  refine qR V <| qM V V V <| qM V V V ?_
  refine qX V V V V co20 (hfs _) ?_
  refine qM V V V <| qO V <| zJ0 V V V <| qO V <| zJ0 V V V <| qO V <| zN0 V zm55 V V <| qO V <| zC0 V V V V sz55 V V (zA V) V <| qA V V V <| qN <| zB <| qR V <| qM V V V <| qM V V V <| qF V V V zZ6 <| qL V V V V ta53 V <| qL V V V V ta27 V ?_
  refine qX V V V V co116 (valIs_spec (.mk fk fi) (.mk n m s q w) ov _) ?_
  refine qP V V V V <| qA V V V <| qN <| zI ?_
  exact zR (.inr V) Tryz.results57 V (.of_eq (by unfold okVal; rw [hf])) (.bool _) Vv
theorem all_take {α : Type} {l : List α} {p : α → Bool} {i : Nat} {x : α} (h : (l.take i).all p = true) (hs : l[i]? = some x) (hx : p x = true) : (l.take (i + 1)).all p = true := by
 rw [List.take_add_one, hs, Option.toList_some, List.all_append, h]
 simp [hx]
theorem all_not {α : Type} {l : List α} {p : α → Bool} {i : Nat} {x : α} (hs : l[i]? = some x) (hx : p x = false) : l.all p = false := List.all_eq_false.2 ⟨x, zW hs, by rw [hx]; decide⟩
def memP (m : List Mm) (i : Nat) : Bool := match m[i]? with
 | some (n, k) => decide (0 ≤ n) && decide (n < 4) && !decide (k = 0) && (decide (i = 0) || decide (((m[i - 1]?).getD (0, 0)).1 < n))
 | none => true
def memF (m : List Mm) : Bool := (List.range m.length).all (memP m)
def cpP (e : Cp) : Bool := !decide (e.1 = []) && decide (e.1.length ≤ 8) && !decide (e.2.1 = 0) && decide (1 ≤ e.2.2) && decide (e.2.2 ≤ 3)
def viewF (m : List Mm) (c : List Cp) : Bool := memF m && c.all cpP && risesF (c.map Prod.fst) && decide (c.length ≤ 40)
theorem memP_of {m : List Mm} {i : Nat} {n k : Int} (hs : m[i]? = some (n, k)) : memP m i = (decide (0 ≤ n) && decide (n < 4) && !decide (k = 0) && (decide (i = 0) || decide (((m[i - 1]?).getD (0, 0)).1 < n))) := by
 unfold memP
 rw [hs]
theorem cp_take {c : List Cp} {k : Nat} {x : Cp} (h : c[k]? = some x) : (c.take (k + 1)).map Prod.fst = (c.take k).map Prod.fst ++ [x.1] := by
 rw [List.take_add_one, h, Option.toList_some, List.map_append]
 rfl
theorem cp_len {c : List Cp} {k : Nat} {x : Cp} (h : c[k]? = some x) : (c.take (k + 1)).length = (c.take k).length + 1 := by
 rw [List.take_add_one, h, Option.toList_some, zG]
 rfl
theorem mem_yes {m : List Mm} (h : ∀ j < m.length, memP m j = true) : memF m = true := List.all_eq_true.2 fun j hj => h j (List.mem_range.1 hj)
theorem mem_no {m : List Mm} {j : Nat} (hj : j < m.length) (h : memP m j = false) : memF m = false := List.all_eq_false.2 ⟨j, List.mem_range.2 hj, by rw [h]; decide⟩
theorem isEntries_spec (t : List Tbl) (es : List Ety) (nn : Bool) (ho : ∀ e ∈ es, okV e.2) (S : MS) : MCalls Tryz.prog 59 [.lst none 4 (t.map encTb), .lst none 6 (es.map encEn), .bool nn] S fun v σ' => v = .bool (entsF t es nn) ∧ σ' = S := by
 refine zM Tryz.func59 V Tryz.ntmps59 (zA V) ?_
 refine zL3 (t := 1) V fun hlen => ?_
 rw [zF] at hlen
 refine zB <| qR V <| qA V V V <| qN <| zB <| zB <| qR V <| qM V V V <| qE V V zF2 V <| qM V V V <| qN <| zX ?_
 refine zD4 (α := Nat) [(0, _), (1, _), (2, _), (11, _), (12, _)] (fun i => [(13, .int .i64 (i : Int))]) (fun i => []) (fun i => i ≤ es.length ∧ (es.take i).all (entP t nn) = true) (fun i => es.length - i) (0) (Nat.le_refl _) (.keep V (.keep V (.keep V (.keep V (.keep V (.nil)))))) (.keep V (.nil)) (⟨by omega, rfl⟩) (V) ?_
 rintro i ⟨hi, hall⟩
 refine zB <| qR V <| qC V V V V V <| qN <| zB ?_
 refine zJ V (fun h14 => ?_) (fun h14 => ?_)
 ·
  rw [zF] at h14
  have hlt : i < es.length := by simpa using h14
  obtain ⟨⟨kx, ⟨n1, m1, s1, c1, w1⟩⟩, hs⟩ : ∃ x, es[i]? = some x := ⟨_, zC hlt⟩
  obtain ⟨⟨fn, fl, ⟨fk, fi⟩⟩, hft⟩ : ∃ z, (findP t kx).getD tb0 = z := ⟨_, rfl⟩
  obtain ⟨fb, hfb⟩ : ∃ z, (findP t kx).isSome = z := ⟨_, rfl⟩
  have hfs := find_spec t kx
  rw [hft, hfb] at hfs
  have hvs := isValue_spec t kx (.mk n1 m1 s1 c1 w1) (ho _ (zW hs))
  obtain ⟨vb, hov⟩ : ∃ z, okVal t kx (.mk n1 m1 s1 c1 w1) = z := ⟨_, rfl⟩
  rw [hov] at hvs
  refine zQ <| zB <| zX <| zB <| qR V <| qO V <| zK V zF2 sz132 (by decide) V V V (zE1 hs) ?_
  refine qO V <| zO V V ta132 V <| qO V <| zN0 V zm132 V V <| qO V <| zC0 V V V V sz132 V V (zA V) V <| qN <| zB <| qR V <| qM V V V <| qF V V V fo132_0 <| qL V V V V ta9 V ?_
  refine qX V V V V co20 (hfs _) ?_
  refine qM V V V <| qO V <| zJ0 V V V <| qO V <| zJ0 V V V <| qO V <| zN0 V zm55 V V <| qO V <| zC0 V V V V sz55 V V (zA V) V <| qA V V V <| qN <| zB <| qR V <| qM V V V <| qF V V V fo132_0 <| qL V V V V ta9 V <| qF V V V fo132_1 <| qL V V V V ta27 V ?_
  refine qX V V V V co57 (hvs _) ?_
  refine qO V <| zC1 V V <| qM V V V ?_
  refine zZ (fun h31 => ?_) (fun h31 => ?_)
  ·
   refine qT V V V V <| qT V V V V <| qS V <| qP V V V V <| qN <| zT V (V) <| zB <| qR V <| qA V V V <| qN <| zI ?_
   have hp : entP t nn (kx, (.mk n1 m1 s1 c1 w1)) = false := by
    unfold entP
    rw [hov, hft]
    first | (simp_all; done) | (cases nn <;> simp_all)
   exact zR (.inr V) Tryz.results59 V (.of_eq (by congr 1; unfold entsF; rw [all_not hs hp]; rfl)) (.bool _) Vv
  ·
   refine qM V V V <| qO V <| zC1 V V <| qM V V V ?_
   refine zZ (fun h34 => ?_) (fun h34 => ?_)
   ·
    refine qF V V V zZ6 <| qL V V V V ta53 V <| qF V V V fo132_1 <| qL V V V V ta27 V ?_
    refine qX V V V V co119 (None_spec (.mk fk fi) (.mk n1 m1 s1 c1 w1) _) ?_
    refine qP V V V V <| qP V V V V <| qN ?_
    refine zJ V (fun h41 => ?_) (fun h41 => ?_)
    ·
     refine zB <| qR V <| qA V V V <| qN <| zI ?_
     have hp : entP t nn (kx, (.mk n1 m1 s1 c1 w1)) = false := by
      unfold entP
      rw [hov, hft]
      first | (simp_all; done) | (cases nn <;> simp_all)
     exact zR (.inr V) Tryz.results59 V (.of_eq (by congr 1; unfold entsF; rw [all_not hs hp]; rfl)) (.bool _) Vv
    ·
     refine zQ <| qR V <| qO V <| zT0 V V V V <| qM V V V <| qN ?_
     have hp : entP t nn (kx, (.mk n1 m1 s1 c1 w1)) = true := by
      unfold entP
      rw [hov, hft]
      first | (simp_all; done) | (cases nn <;> simp_all)
     refine ⟨i + 1, _, by omega, ⟨by omega, all_take hall hs hp⟩, rfl, .nil, (.old V V (.old V V (.old V V (.old V V (.old V V (.nil)))))), (.new' V (zQ1 hlt hlen) (.int _ _) (.nil))⟩
   ·
    refine qT V V V V <| qS V <| qP V V V V <| qP V V V V <| qN <| zL V (V) <| zQ <| qR V <| qO V <| zT0 V V V V <| qM V V V <| qN ?_
    have hp : entP t nn (kx, (.mk n1 m1 s1 c1 w1)) = true := by
     unfold entP
     rw [hov, hft]
     first | (simp_all; done) | (cases nn <;> simp_all)
    refine ⟨i + 1, _, by omega, ⟨by omega, all_take hall hs hp⟩, rfl, .nil, (.old V V (.old V V (.old V V (.old V V (.old V V (.nil)))))), (.new' V (zQ1 hlt hlen) (.int _ _) (.nil))⟩
 ·
  rw [zF] at h14
  have hge : i = es.length := by simp at h14; omega
  rw [hge, List.take_length] at hall
  refine zM1 <| zB <| qR V <| qM V V V <| qM V V V ?_
  refine qX V V V V co120 (isRowE_spec t es _) ?_
  refine qA V V V <| qN <| zI ?_
  exact zR (.inr V) Tryz.results59 V (.of_eq (by congr 1; unfold entsF; rw [hall]; rfl)) (.bool _) Vv
theorem byNode_spec (a b : Mm) (S : MS) : MCalls Tryz.prog 117 [encMm a, encMm b] S fun v σ' => v = .int .i64 (cmpI a.1 b.1) ∧ σ' = S := by
 obtain ⟨a1, a2⟩ := a
 obtain ⟨b1, b2⟩ := b
 refine zM Tryz.func117 V Tryz.ntmps117 (zA V) ?_
 refine zB <| qR V <| qB V V V V V <| qB V V V V V <| qA V V V <| qN <| zB <| qR V <| qF V V V fo184_0 <| qL V V V V ta3 V <| qF V V V fo184_0 <| qL V V V V ta3 V ?_
 refine qX V V V V co166 (compare_spec a1 b1 _) ?_
 refine qA V V V <| qN <| zI ?_
 exact zR (.inr V) Tryz.results117 V (.of_eq (V)) (.int _ _) Vv
theorem _root_.zY3 : type_of% @Tryz.results58 := @Tryz.results58
theorem viewIs_spec (m : List Mm) (c : List Cp) (hcl : c.length ≤ 4000000) (S : MS) : MCalls Tryz.prog 58 [encVw m c] S fun v σ' => v = .bool (viewF m c) ∧ σ' = S := by
 refine zM Tryz.func58 V Tryz.ntmps58 (zA V) ?_
 refine zB <| qR V <| qB V V V V V <| qA V V V <| qN <| zB <| zB ?_
 skip
 refine qR V <| qF V V V fo33_0 <| qL V V V V ta30 V <| qE V V zD3 V <| qM V V V <| qN <| zX ?_
 refine zD4 (α := Nat) [(1, _), (9, _), (10, _)] (fun i => [(11, .int .i64 (i : Int))]) (fun i => [.cells [.lst none 2 (m.map encMm), .lst none 3 (c.map encCp)]]) (fun i => i ≤ m.length ∧ ∀ j < i, memP m j = true) (fun i => m.length - i) (0) (Nat.le_refl _) (.keep V (.keep V (.keep V (.nil)))) (.keep V (.nil)) (⟨by omega, fun j hj => by omega⟩) (V) ?_
 rintro i ⟨hi, hd⟩
 refine zB ?_
 skip
 refine qR V <| qC V V V V V <| qN <| zB ?_
 refine zJ V (fun h12 => ?_) (fun h12 => ?_)
 ·
  rw [zF] at h12
  have hlt : i < m.length := by simpa using h12
  obtain ⟨⟨xn, xk⟩, hs⟩ : ∃ z, m[i]? = some z := ⟨_, zC hlt⟩
  refine zL3 (t := 9) V fun hlm => ?_
  rw [zF] at hlm
  have hlm2 : m.length < 9223372036854775808 := by simp only [maxLen] at hlm; omega
  refine zQ <| zB <| zX <| zB <| qR V <| qM V V V <| qO V <| zK V zD3 sz184 (by decide) V V V (zE1 hs) ?_
  refine qO V <| zO V V ta184 V <| qO V <| zN0 V zm184 V V <| qA V V V <| qO V <| zC0 V V V V sz184 V V (zA V) V <| qN <| zB ?_
  refine zX0 [] [_] mo (by decide) V V V V ?_
  refine dO V V V (zE V V fo184_0 Vv) <| dO V V V (zO0 V V V ta3 V Vv) <| dO V V V (zW2 V V V V Vv) <| dO V V V (zY V V Vv) ?_
  refine zT3 (fun h19 => ?_) (fun h19 => ?_)
  ·
   refine dS V V <| dS V V <| dS V V <| dO V V V (zO1 V V V Vv) <| dO V V V (zY V V Vv) <| dS V V <| dS V V <| dS V V <| dO V V V (zO1 V V V Vv) <| dO V V V (zY V V Vv) <| dS V V <| dS V V <| dS V V <| dS V V <| dS V V <| dS V V <| dS V V <| dS V V <| dS V V <| dS V V <| dS V V <| dS V V <| dS V V <| dO V V V (zO1 V V V Vv) <| zP0 <| zT V (V) <| zB <| qR V <| qA V V V ?_
   refine qN <| zI ?_
   have hp : memP m i = false := by
    rw [memP_of hs]
    clear hd
    first | (rw [hsp]; simp_all [cmpI]; done) | (rw [hsp]; simp_all [cmpI] <;> omega) | (simp_all [cmpI]; done) | (simp_all [cmpI] <;> omega)
   exact zR (.inr V) zY3 V (.of_eq (by congr 1; unfold viewF; rw [mem_no hlt hp]; rfl)) (.bool _) Vv
  ·
   refine dO V V V (zE V V fo184_0 Vv) <| dO V V V (zO0 V V V ta3 V Vv) <| dO V V V (zW2 V V V V Vv) <| dO V V V (zO1 V V V Vv) <| dO V V V (zY V V Vv) ?_
   refine zT3 (fun h24 => ?_) (fun h24 => ?_)
   ·
    refine dS V V <| dS V V <| dS V V <| dO V V V (zO1 V V V Vv) <| dO V V V (zY V V Vv) <| dS V V <| dS V V <| dS V V <| dS V V <| dS V V <| dS V V <| dS V V <| dS V V <| dS V V <| dS V V <| dS V V <| dS V V <| dS V V <| dO V V V (zO1 V V V Vv) <| zP0 <| zT V (V) <| zB <| qR V <| qA V V V <| qN <| zI ?_
    have hp : memP m i = false := by
     rw [memP_of hs]
     clear hd
     first | (rw [hsp]; simp_all [cmpI]; done) | (rw [hsp]; simp_all [cmpI] <;> omega) | (simp_all [cmpI]; done) | (simp_all [cmpI] <;> omega)
    exact zR (.inr V) zY3 V (.of_eq (by congr 1; unfold viewF; rw [mem_no hlt hp]; rfl)) (.bool _) Vv
   ·
    refine dO V V V (zE V V fo184_1 Vv) <| dO V V V (zO0 V V V ta22 V Vv) <| dO V V V (zW2 V V V V Vv) <| dO V V V (zO1 V V V Vv) <| dO V V V (zY V V Vv) ?_
    refine zT3 (fun h29 => ?_) (fun h29 => ?_)
    ·
     refine dS V V <| dS V V <| dS V V <| dS V V <| dS V V <| dS V V <| dS V V <| dS V V <| dS V V <| dS V V <| dS V V <| dS V V <| dS V V <| dO V V V (zO1 V V V Vv) <| zP0 <| zT V (V) <| zB <| qR V <| qA V V V <| qN <| zI ?_
     have hp : memP m i = false := by
      rw [memP_of hs]
      clear hd
      first | (rw [hsp]; simp_all [cmpI]; done) | (rw [hsp]; simp_all [cmpI] <;> omega) | (simp_all [cmpI]; done) | (simp_all [cmpI] <;> omega)
     exact zR (.inr V) zY3 V (.of_eq (by congr 1; unfold viewF; rw [mem_no hlt hp]; rfl)) (.bool _) Vv
    ·
     refine dO V V V (zY V V Vv) <| dO V V V (zW2 V V V V Vv) <| dO V V V (zY V V Vv) ?_
     refine zT3 (fun h32 => ?_) (fun h32 => ?_)
     ·
      have hi0 : 0 < i := by simpa using h32
      obtain ⟨⟨pn, pk⟩, hsp⟩ : ∃ z, m[i - 1]? = some z := ⟨_, zC (by omega)⟩
      refine dO V V V (zE V V fo33_0 Vv) <| dO V V V (zO0 V V V ta30 V Vv) <| dO V V V (zY V V Vv) <| dO V V V (zT0 V V V (wsub (a := i) (b := 1) (c := i - 1) (by omega) (by omega)) Vv) ?_
      refine dO V V V (zK V zD3 sz184 (by decide) V V V (zE1 hsp) Vv) ?_
      refine dO V V V (zO V V ta184 V Vv) <| dO V V V (zO0 V V V ta184 V Vv) <| zU V V (.cons (zD1 V V V co117 (byNode_spec (pn, pk) (xn, xk) _)) .nil) <| dO V V V (zW2 V V V V Vv) <| dO V V V (zO1 V V V Vv) <| dO V V V (zO1 V V V Vv) <| zP0 ?_
      refine zJ V (fun h43 => ?_) (fun h43 => ?_)
      ·
       refine zB <| qR V <| qA V V V <| qN <| zI ?_
       have hp : memP m i = false := by
        rw [memP_of hs]
        clear hd
        first | (rw [hsp]; simp_all [cmpI]; done) | (rw [hsp]; simp_all [cmpI] <;> omega) | (simp_all [cmpI]; done) | (simp_all [cmpI] <;> omega)
       exact zR (.inr V) zY3 V (.of_eq (by congr 1; unfold viewF; rw [mem_no hlt hp]; rfl)) (.bool _) Vv
      ·
       refine zQ <| qR V <| qO V <| zT0 V V V V <| qM V V V <| qN ?_
       have hp : memP m i = true := by
        rw [memP_of hs]
        clear hd
        first | (rw [hsp]; simp_all [cmpI]; done) | (rw [hsp]; simp_all [cmpI] <;> omega) | (simp_all [cmpI]; done) | (simp_all [cmpI] <;> omega)
       refine ⟨i + 1, _, by omega, ⟨by omega, fun j hj => (Nat.lt_or_eq_of_le (Nat.le_of_lt_succ hj)).elim (hd j) (fun e => e ▸ hp)⟩, rfl, .same .nil, (.old V V (.old V V (.old V V (.nil)))), (.new' V (zQ1 hlt hlm) (.int _ _) (.nil))⟩
     ·
      refine dS V V <| dS V V <| dS V V <| dS V V <| dS V V <| dS V V <| dS V V <| dS V V <| dS V V <| dO V V V (zO1 V V V Vv) <| dO V V V (zO1 V V V Vv) <| zP0 <| zL V (V) <| zQ <| qR V <| qO V <| zT0 V V V V <| qM V V V <| qN ?_
      have hp : memP m i = true := by
       rw [memP_of hs]
       clear hd
       first | (rw [hsp]; simp_all [cmpI]; done) | (rw [hsp]; simp_all [cmpI] <;> omega) | (simp_all [cmpI]; done) | (simp_all [cmpI] <;> omega)
      refine ⟨i + 1, _, by omega, ⟨by omega, fun j hj => (Nat.lt_or_eq_of_le (Nat.le_of_lt_succ hj)).elim (hd j) (fun e => e ▸ hp)⟩, rfl, .same .nil, (.old V V (.old V V (.old V V (.nil)))), (.new' V (zQ1 hlt hlm) (.int _ _) (.nil))⟩
 ·
  rw [zF] at h12
  have hge : i = m.length := by simp at h12; omega
  rw [hge] at hd
  have hmf := mem_yes hd
  refine zM1 <| zB <| qR V <| qA V V V <| qN <| zB <| zB <| qR V <| qF V V V fo33_1 <| qL V V V V ta31 V <| qE V V zP3 V <| qM V V V <| qN <| zX <| mwp_row0 5 9 1 V (Nat.le_refl _) V V ?_
  refine zD4 (α := Nat) [(46, _), (47, _)] (fun k => [(5, .lst (some (S.length + 1)) 1 (((c.take k).map Prod.fst).map encX)), (48, .int .i64 (k : Int))]) (fun k => [.cells [.lst none 2 (m.map encMm), .lst none 3 (c.map encCp)], .row 9 1 (c.take k).length]) (fun k => k ≤ c.length ∧ (c.take k).all cpP = true) (fun k => c.length - k) (0) (Nat.le_refl _) (.keep V (.keep V (.nil))) (.eq V (V) (.keep V (.nil))) (⟨by omega, rfl⟩) (V) ?_
  rintro k ⟨hk, hall⟩
  have hckl : (c.take k).length ≤ k := List.length_take_le _ _
  refine zB <| qR V <| qC V V V V V <| qN <| zB ?_
  refine zJ V (fun h49 => ?_) (fun h49 => ?_)
  ·
   rw [zF] at h49
   have hlt2 : k < c.length := by simpa using h49
   obtain ⟨⟨kx, kn, km⟩, hs2⟩ : ∃ z, c[k]? = some z := ⟨_, zC hlt2⟩
   refine zL3 (t := 46) V fun hlc => ?_
   rw [zF] at hlc
   refine zQ <| zB <| zX <| zB <| qR V <| qO V <| zK V zP3 sz187 (by decide) V V V (zE1 hs2) ?_
   refine qO V <| zO V V ta187 V <| qO V <| zN0 V zm187 V V <| qO V <| zC0 V V V V sz187 V V (zA V) V <| qN <| zB <| zB <| qR V <| qF V V V fo187_0 <| qL V V V V ta9 V <| qO V <| zS2 V V V V <| qM V V V ?_
   refine zZ (fun h55 => ?_) (fun h55 => ?_)
   ·
    refine qT V V V V <| qP V V V V <| qM V V V <| qS V <| qS V <| qS V <| qP V V V V <| qM V V V <| qS V <| qS V <| qS V <| qP V V V V <| qM V V V <| qS V <| qS V <| qS V <| qP V V V V <| qN <| zT V (V) <| zB ?_
    refine qR V <| qA V V V <| qN <| zI ?_
    have hp : cpP (kx, kn, km) = false := by
     unfold cpP
     first | (simp_all; done) | (simp_all <;> omega)
    exact zR (.inr V) zY3 V (.of_eq (by congr 1; unfold viewF; rw [hmf, all_not hs2 hp]; rfl)) (.bool _) Vv
   ·
    refine qF V V V fo187_0 <| qL V V V V ta9 V <| qO V <| zU3 V zV0 V <| qC V V V V V <| qP V V V V <| qM V V V ?_
    refine zZ (fun h61 => ?_) (fun h61 => ?_)
    ·
     refine qS V <| qS V <| qS V <| qP V V V V <| qM V V V <| qS V <| qS V <| qS V <| qP V V V V <| qM V V V <| qS V <| qS V <| qS V <| qP V V V V <| qN <| zT V (V) <| zB <| qR V <| qA V V V <| qN <| zI ?_
     have hp : cpP (kx, kn, km) = false := by
      unfold cpP
      first | (simp_all; done) | (simp_all <;> omega)
     exact zR (.inr V) zY3 V (.of_eq (by congr 1; unfold viewF; rw [hmf, all_not hs2 hp]; rfl)) (.bool _) Vv
    ·
     refine qF V V V fo187_1 <| qL V V V V ta22 V <| qC V V V V V <| qP V V V V <| qM V V V ?_
     refine zZ (fun h66 => ?_) (fun h66 => ?_)
     ·
      refine qS V <| qS V <| qS V <| qP V V V V <| qM V V V <| qS V <| qS V <| qS V <| qP V V V V <| qN <| zT V (V) <| zB <| qR V <| qA V V V <| qN <| zI ?_
      have hp : cpP (kx, kn, km) = false := by
       unfold cpP
       first | (simp_all; done) | (simp_all <;> omega)
      exact zR (.inr V) zY3 V (.of_eq (by congr 1; unfold viewF; rw [hmf, all_not hs2 hp]; rfl)) (.bool _) Vv
     ·
      refine qF V V V fo187_2 <| qL V V V V ta22 V <| qC V V V V V <| qP V V V V <| qM V V V ?_
      refine zZ (fun h71 => ?_) (fun h71 => ?_)
      ·
       refine qS V <| qS V <| qS V <| qP V V V V <| qN <| zT V (V) <| zB <| qR V <| qA V V V <| qN <| zI ?_
       have hp : cpP (kx, kn, km) = false := by
        unfold cpP
        first | (simp_all; done) | (simp_all <;> omega)
       exact zR (.inr V) zY3 V (.of_eq (by congr 1; unfold viewF; rw [hmf, all_not hs2 hp]; rfl)) (.bool _) Vv
      ·
       refine qF V V V fo187_2 <| qL V V V V ta22 V <| qC V V V V V <| qP V V V V <| qN ?_
       refine zJ V (fun h75 => ?_) (fun h75 => ?_)
       ·
        refine zB <| qR V <| qA V V V <| qN <| zI ?_
        have hp : cpP (kx, kn, km) = false := by
         unfold cpP
         first | (simp_all; done) | (simp_all <;> omega)
        exact zR (.inr V) zY3 V (.of_eq (by congr 1; unfold viewF; rw [hmf, all_not hs2 hp]; rfl)) (.bool _) Vv
       ·
        refine zQ <| qR V <| qM V V V <| qF V V V fo187_0 <| qL V V V V ta9 V <| qO V <| zJ1 V zB0 el9 V V (by decide) (by decide) V V ?_
        refine qO V <| zN3 V zB0 el9 V V V (by simp) (by simp only [zF0, List.length_nil]; omega) (by simp only [zF0, List.length_nil]; omega) V ?_
        refine qA V V V <| qN <| qR V <| qO V <| zT0 V V V V <| qM V V V <| qN ?_
        have hp : cpP (kx, kn, km) = true := by
         unfold cpP
         first | (simp_all; done) | (simp_all <;> omega)
        refine ⟨k + 1, _, by omega, ⟨by omega, all_take hall hs2 hp⟩, by rw [cp_len hs2]; rfl, .same (.new trivial .nil), (.old V V (.old V V (.nil))), (.new' V (by rw [cp_take hs2, List.map_append]; rfl) (zC6 (by simp) (fun e => .str _) (fun e => .inr V)) (.new' V (zQ1 hlt2 hlc) (.int _ _) (.nil)))⟩
  ·
   rw [zF] at h49
   have hge2 : k = c.length := by simp at h49; omega
   rw [hge2, List.take_length] at hall ⊢
   refine zM1 <| zB <| qR V <| qM V V V ?_
   refine qX V V V V co118 ((rowsIs_spec (c.map Prod.fst) _).sub (.cons (.view _ _ _) .nil)) ?_
   refine qM V V V ?_
   refine zZ (fun h84 => ?_) (fun h84 => ?_)
   ·
    refine qM V V V <| qE V V zB0 V <| qC V V V V V <| qP V V V V <| qA V V V <| qN <| zI ?_
    exact zR (.inr V) zY3 V (.of_eq (by congr 1; unfold viewF; rw [hmf, hall]; simp_all <;> omega)) (.bool _) Vv
   ·
    refine qS V <| qS V <| qS V <| qP V V V V <| qA V V V <| qN <| zI ?_
    exact zR (.inr V) zY3 V (.of_eq (by congr 1; unfold viewF; rw [hmf, hall]; simp_all <;> omega)) (.bool _) Vv
noncomputable def bareF_ (p : Bool × Bool × Bool × Bool × Bool) (key : Bs) (v : Val) (es : List Ety) (su : List Su) (mm : List Mm) (cp : List Cp) : Bool :=
 (p.1 || decide (key = [])) && (p.2.1 || decide (v = noV)) && (p.2.2.1 || decide (es = [])) && (p.2.2.2.1 || decide (su = [])) && (p.2.2.2.2 || decide (mm = [] ∧ cp = []))
noncomputable def letF (t : List Tbl) (k f to c : Int) (key : Bs) (v : Val) (es : List Ety) (su : List Su) (mm : List Mm) (cp : List Cp) : Bool :=
 rightF t && decide (1 ≤ k) && decide (k ≤ 10) && placeF f && placeF to && decide (0 ≤ c) && decide (c ≤ 100) && bareF_ (ofP k c) key v es su mm cp && (!(ofP k c).1 || (findP t key).isSome) && (!(ofP k c).2.1 || okVal t key v) && viewF mm cp && entsF t es (k == 8) && rowF t (su.map Prod.fst)
theorem len0 {α : Type} {f : α → MV} {l : List α} : intCmp .eql ((l.map f).length : Int) 0 = some (decide (l = [])) := by
 rw [zF]
 show some ((l.length : Int) == 0) = _
 congr 1
 rw [zH]
 simp
theorem _root_.zS0 : type_of% @Tryz.results56 := @Tryz.results56
theorem _root_.zG2 : type_of% @Tryz.underlying33 := @Tryz.underlying33
theorem bareL_spec (p : Bool × Bool × Bool × Bool × Bool) (k f to i c : Int) (key : Bs) (x : Val) (es : List Ety) (su : List Su) (mm : List Mm) (cp : List Cp) (S : MS) : MCalls Tryz.prog 56 [encPt p, encLt k f to i c key x es su mm cp] S fun v σ' => v = .bool (bareF_ p key x es su mm cp) ∧ σ' = S := by
 obtain ⟨n, m, s, q, w⟩ := x
 obtain ⟨p1, p2, p3, p4, p5⟩ := p
 refine zM Tryz.func56 V Tryz.ntmps56 (zA V) ?_
 refine zB <| qR V <| qB V V V V V <| qB V V V V V <| qA V V V <| qN <| zB <| qR V <| qF V V V fo104_0 <| qL V V V V ta4 V <| qM V V V ?_
 refine zZ (fun h7 => ?_) (fun h7 => ?_)
 ·
  refine qS V <| qS V <| qS V <| qP V V V V <| qM V V V <| qF V V V fo104_1 <| qL V V V V ta4 V <| qM V V V ?_
  refine zZ (fun h15 => ?_) (fun h15 => ?_)
  ·
   refine qT V V V V <| qP V V V V <| qP V V V V <| qM V V V <| qF V V V fo104_2 <| qL V V V V ta4 V <| qM V V V ?_
   refine zZ (fun h25 => ?_) (fun h25 => ?_)
   ·
    refine qT V V V V <| qP V V V V <| qP V V V V <| qM V V V <| qF V V V zS6 <| qL V V V V ta4 V <| qM V V V ?_
    refine zZ (fun h35 => ?_) (fun h35 => ?_)
    ·
     refine qT V V V V <| qP V V V V <| qP V V V V <| qM V V V <| qF V V V zR4 <| qL V V V V ta4 V <| qM V V V ?_
     refine zZ (fun h45 => ?_) (fun h45 => ?_)
     ·
      refine qT V V V V <| qP V V V V <| qP V V V V <| qA V V V <| qN <| zI ?_
      exact zR (.inr V) zS0 V (.of_eq (by congr 1; unfold bareF_; (first | (simp_all; done) | (rw [zH]; simp_all)))) (.bool _) Vv
     ·
      refine qF V V V zG5 <| qL V V V V ta33 V <| qO V <| zZ1 (y := encVw [] []) (zA1 V zG2 zm33 .nil (by kernel_rfl) Vv) (.agg (.cons (.nil 2) (.cons (.nil 3) .nil))) ?_
      refine qX V V V V co72 (zY2 mm [] cp [] _) ?_
      refine qP V V V V <| qP V V V V <| qA V V V <| qN <| zI ?_
      exact zR (.inr V) zS0 V (.of_eq (by congr 1; unfold bareF_; (first | (simp_all; done) | (rw [zH]; simp_all)))) (.bool _) Vv
    ·
     refine qF V V V fo35_8 <| qL V V V V ta29 V <| qE V V zR2 V <| qC V V V V (len0) <| qP V V V V <| qP V V V V <| qM V V V ?_
     refine zZ (fun h42 => ?_) (fun h42 => ?_)
     ·
      refine qF V V V zR4 <| qL V V V V ta4 V <| qM V V V ?_
      refine zZ (fun h45 => ?_) (fun h45 => ?_)
      ·
       refine qT V V V V <| qP V V V V <| qP V V V V <| qA V V V <| qN <| zI ?_
       exact zR (.inr V) zS0 V (.of_eq (by congr 1; unfold bareF_; (first | (simp_all; done) | (rw [zH]; simp_all)))) (.bool _) Vv
      ·
       refine qF V V V zG5 <| qL V V V V ta33 V <| qO V <| zZ1 (y := encVw [] []) (zA1 V zG2 zm33 .nil (by kernel_rfl) Vv) (.agg (.cons (.nil 2) (.cons (.nil 3) .nil))) ?_
       refine qX V V V V co72 (zY2 mm [] cp [] _) ?_
       refine qP V V V V <| qP V V V V <| qA V V V <| qN <| zI ?_
       exact zR (.inr V) zS0 V (.of_eq (by congr 1; unfold bareF_; (first | (simp_all; done) | (rw [zH]; simp_all)))) (.bool _) Vv
     ·
      refine qT V V V V <| qT V V V V <| qP V V V V <| qA V V V <| qN <| zI ?_
      exact zR (.inr V) zS0 V (.of_eq (by congr 1; unfold bareF_; (first | (simp_all; done) | (rw [zH]; simp_all)))) (.bool _) Vv
   ·
    refine qF V V V fo35_7 <| qL V V V V ta28 V <| qE V V zF2 V <| qC V V V V (len0) <| qP V V V V <| qP V V V V <| qM V V V ?_
    refine zZ (fun h32 => ?_) (fun h32 => ?_)
    ·
     refine qF V V V zS6 <| qL V V V V ta4 V <| qM V V V ?_
     refine zZ (fun h35 => ?_) (fun h35 => ?_)
     ·
      refine qT V V V V <| qP V V V V <| qP V V V V <| qM V V V <| qF V V V zR4 <| qL V V V V ta4 V <| qM V V V ?_
      refine zZ (fun h45 => ?_) (fun h45 => ?_)
      ·
       refine qT V V V V <| qP V V V V <| qP V V V V <| qA V V V <| qN <| zI ?_
       exact zR (.inr V) zS0 V (.of_eq (by congr 1; unfold bareF_; (first | (simp_all; done) | (rw [zH]; simp_all)))) (.bool _) Vv
      ·
       refine qF V V V zG5 <| qL V V V V ta33 V <| qO V <| zZ1 (y := encVw [] []) (zA1 V zG2 zm33 .nil (by kernel_rfl) Vv) (.agg (.cons (.nil 2) (.cons (.nil 3) .nil))) ?_
       refine qX V V V V co72 (zY2 mm [] cp [] _) ?_
       refine qP V V V V <| qP V V V V <| qA V V V <| qN <| zI ?_
       exact zR (.inr V) zS0 V (.of_eq (by congr 1; unfold bareF_; (first | (simp_all; done) | (rw [zH]; simp_all)))) (.bool _) Vv
     ·
      refine qF V V V fo35_8 <| qL V V V V ta29 V <| qE V V zR2 V <| qC V V V V (len0) <| qP V V V V <| qP V V V V <| qM V V V ?_
      refine zZ (fun h42 => ?_) (fun h42 => ?_)
      ·
       refine qF V V V zR4 <| qL V V V V ta4 V <| qM V V V ?_
       refine zZ (fun h45 => ?_) (fun h45 => ?_)
       ·
        refine qT V V V V <| qP V V V V <| qP V V V V <| qA V V V <| qN <| zI ?_
        exact zR (.inr V) zS0 V (.of_eq (by congr 1; unfold bareF_; (first | (simp_all; done) | (rw [zH]; simp_all)))) (.bool _) Vv
       ·
        refine qF V V V zG5 <| qL V V V V ta33 V <| qO V <| zZ1 (y := encVw [] []) (zA1 V zG2 zm33 .nil (by kernel_rfl) Vv) (.agg (.cons (.nil 2) (.cons (.nil 3) .nil))) ?_
        refine qX V V V V co72 (zY2 mm [] cp [] _) ?_
        refine qP V V V V <| qP V V V V <| qA V V V <| qN <| zI ?_
        exact zR (.inr V) zS0 V (.of_eq (by congr 1; unfold bareF_; (first | (simp_all; done) | (rw [zH]; simp_all)))) (.bool _) Vv
      ·
       refine qT V V V V <| qT V V V V <| qP V V V V <| qA V V V <| qN <| zI ?_
       exact zR (.inr V) zS0 V (.of_eq (by congr 1; unfold bareF_; (first | (simp_all; done) | (rw [zH]; simp_all)))) (.bool _) Vv
    ·
     refine qT V V V V <| qT V V V V <| qP V V V V <| qM V V V <| qT V V V V <| qT V V V V <| qP V V V V <| qA V V V <| qN <| zI ?_
     exact zR (.inr V) zS0 V (.of_eq (by congr 1; unfold bareF_; (first | (simp_all; done) | (rw [zH]; simp_all)))) (.bool _) Vv
  ·
   refine qF V V V fo35_6 <| qL V V V V ta27 V <| qO V <| zZ1 (y := encV noV) (zA1 V zU1 zm27 .nil (by kernel_rfl) Vv) (.agg (.cons (.refl _) (.cons (.refl _) (.cons (.nil 1) (.cons (.nil 1) (.cons (.nil 5) .nil)))))) ?_
   refine qX V V V V co68 (valSame_spec (.mk n m s q w) noV _) ?_
   refine qP V V V V <| qP V V V V <| qM V V V ?_
   refine zZ (fun h22 => ?_) (fun h22 => ?_)
   ·
    refine qF V V V fo104_2 <| qL V V V V ta4 V <| qM V V V ?_
    refine zZ (fun h25 => ?_) (fun h25 => ?_)
    ·
     refine qT V V V V <| qP V V V V <| qP V V V V <| qM V V V <| qF V V V zS6 <| qL V V V V ta4 V <| qM V V V ?_
     refine zZ (fun h35 => ?_) (fun h35 => ?_)
     ·
      refine qT V V V V <| qP V V V V <| qP V V V V <| qM V V V <| qF V V V zR4 <| qL V V V V ta4 V <| qM V V V ?_
      refine zZ (fun h45 => ?_) (fun h45 => ?_)
      ·
       refine qT V V V V <| qP V V V V <| qP V V V V <| qA V V V <| qN <| zI ?_
       exact zR (.inr V) zS0 V (.of_eq (by congr 1; unfold bareF_; (first | (simp_all; done) | (rw [zH]; simp_all)))) (.bool _) Vv
      ·
       refine qF V V V zG5 <| qL V V V V ta33 V <| qO V <| zZ1 (y := encVw [] []) (zA1 V zG2 zm33 .nil (by kernel_rfl) Vv) (.agg (.cons (.nil 2) (.cons (.nil 3) .nil))) ?_
       refine qX V V V V co72 (zY2 mm [] cp [] _) ?_
       refine qP V V V V <| qP V V V V <| qA V V V <| qN <| zI ?_
       exact zR (.inr V) zS0 V (.of_eq (by congr 1; unfold bareF_; (first | (simp_all; done) | (rw [zH]; simp_all)))) (.bool _) Vv
     ·
      refine qF V V V fo35_8 <| qL V V V V ta29 V <| qE V V zR2 V <| qC V V V V (len0) <| qP V V V V <| qP V V V V <| qM V V V ?_
      refine zZ (fun h42 => ?_) (fun h42 => ?_)
      ·
       refine qF V V V zR4 <| qL V V V V ta4 V <| qM V V V ?_
       refine zZ (fun h45 => ?_) (fun h45 => ?_)
       ·
        refine qT V V V V <| qP V V V V <| qP V V V V <| qA V V V <| qN <| zI ?_
        exact zR (.inr V) zS0 V (.of_eq (by congr 1; unfold bareF_; (first | (simp_all; done) | (rw [zH]; simp_all)))) (.bool _) Vv
       ·
        refine qF V V V zG5 <| qL V V V V ta33 V <| qO V <| zZ1 (y := encVw [] []) (zA1 V zG2 zm33 .nil (by kernel_rfl) Vv) (.agg (.cons (.nil 2) (.cons (.nil 3) .nil))) ?_
        refine qX V V V V co72 (zY2 mm [] cp [] _) ?_
        refine qP V V V V <| qP V V V V <| qA V V V <| qN <| zI ?_
        exact zR (.inr V) zS0 V (.of_eq (by congr 1; unfold bareF_; (first | (simp_all; done) | (rw [zH]; simp_all)))) (.bool _) Vv
      ·
       refine qT V V V V <| qT V V V V <| qP V V V V <| qA V V V <| qN <| zI ?_
       exact zR (.inr V) zS0 V (.of_eq (by congr 1; unfold bareF_; (first | (simp_all; done) | (rw [zH]; simp_all)))) (.bool _) Vv
    ·
     refine qF V V V fo35_7 <| qL V V V V ta28 V <| qE V V zF2 V <| qC V V V V (len0) <| qP V V V V <| qP V V V V <| qM V V V ?_
     refine zZ (fun h32 => ?_) (fun h32 => ?_)
     ·
      refine qF V V V zS6 <| qL V V V V ta4 V <| qM V V V ?_
      refine zZ (fun h35 => ?_) (fun h35 => ?_)
      ·
       refine qT V V V V <| qP V V V V <| qP V V V V <| qM V V V <| qF V V V zR4 <| qL V V V V ta4 V <| qM V V V ?_
       refine zZ (fun h45 => ?_) (fun h45 => ?_)
       ·
        refine qT V V V V <| qP V V V V <| qP V V V V <| qA V V V <| qN <| zI ?_
        exact zR (.inr V) zS0 V (.of_eq (by congr 1; unfold bareF_; (first | (simp_all; done) | (rw [zH]; simp_all)))) (.bool _) Vv
       ·
        refine qF V V V zG5 <| qL V V V V ta33 V <| qO V <| zZ1 (y := encVw [] []) (zA1 V zG2 zm33 .nil (by kernel_rfl) Vv) (.agg (.cons (.nil 2) (.cons (.nil 3) .nil))) ?_
        refine qX V V V V co72 (zY2 mm [] cp [] _) ?_
        refine qP V V V V <| qP V V V V <| qA V V V <| qN <| zI ?_
        exact zR (.inr V) zS0 V (.of_eq (by congr 1; unfold bareF_; (first | (simp_all; done) | (rw [zH]; simp_all)))) (.bool _) Vv
      ·
       refine qF V V V fo35_8 <| qL V V V V ta29 V <| qE V V zR2 V <| qC V V V V (len0) <| qP V V V V <| qP V V V V <| qM V V V ?_
       refine zZ (fun h42 => ?_) (fun h42 => ?_)
       ·
        refine qF V V V zR4 <| qL V V V V ta4 V <| qM V V V ?_
        refine zZ (fun h45 => ?_) (fun h45 => ?_)
        ·
         refine qT V V V V <| qP V V V V <| qP V V V V <| qA V V V <| qN <| zI ?_
         exact zR (.inr V) zS0 V (.of_eq (by congr 1; unfold bareF_; (first | (simp_all; done) | (rw [zH]; simp_all)))) (.bool _) Vv
        ·
         refine qF V V V zG5 <| qL V V V V ta33 V <| qO V <| zZ1 (y := encVw [] []) (zA1 V zG2 zm33 .nil (by kernel_rfl) Vv) (.agg (.cons (.nil 2) (.cons (.nil 3) .nil))) ?_
         refine qX V V V V co72 (zY2 mm [] cp [] _) ?_
         refine qP V V V V <| qP V V V V <| qA V V V <| qN <| zI ?_
         exact zR (.inr V) zS0 V (.of_eq (by congr 1; unfold bareF_; (first | (simp_all; done) | (rw [zH]; simp_all)))) (.bool _) Vv
       ·
        refine qT V V V V <| qT V V V V <| qP V V V V <| qA V V V <| qN <| zI ?_
        exact zR (.inr V) zS0 V (.of_eq (by congr 1; unfold bareF_; (first | (simp_all; done) | (rw [zH]; simp_all)))) (.bool _) Vv
     ·
      refine qT V V V V <| qT V V V V <| qP V V V V <| qM V V V <| qT V V V V <| qT V V V V <| qP V V V V <| qA V V V <| qN <| zI ?_
      exact zR (.inr V) zS0 V (.of_eq (by congr 1; unfold bareF_; (first | (simp_all; done) | (rw [zH]; simp_all)))) (.bool _) Vv
   ·
    refine qT V V V V <| qT V V V V <| qP V V V V <| qM V V V <| qT V V V V <| qT V V V V <| qP V V V V <| qM V V V <| qT V V V V <| qS V <| qS V ?_
    refine qS V <| qS V <| qP V V V V <| qA V V V <| qN <| zI ?_
    exact zR (.inr V) zS0 V (.of_eq (by congr 1; unfold bareF_; (first | (simp_all; done) | (rw [zH]; simp_all)))) (.bool _) Vv
 ·
  refine qF V V V fo35_5 <| qL V V V V ta9 V <| qO V <| zS2 V V V (strEq_D key []) <| qP V V V V <| qM V V V ?_
  refine zZ (fun h12 => ?_) (fun h12 => ?_)
  ·
   refine qF V V V fo104_1 <| qL V V V V ta4 V <| qM V V V ?_
   refine zZ (fun h15 => ?_) (fun h15 => ?_)
   ·
    refine qT V V V V <| qP V V V V <| qP V V V V <| qM V V V <| qF V V V fo104_2 <| qL V V V V ta4 V <| qM V V V ?_
    refine zZ (fun h25 => ?_) (fun h25 => ?_)
    ·
     refine qT V V V V <| qP V V V V <| qP V V V V <| qM V V V <| qF V V V zS6 <| qL V V V V ta4 V <| qM V V V ?_
     refine zZ (fun h35 => ?_) (fun h35 => ?_)
     ·
      refine qT V V V V <| qP V V V V <| qP V V V V <| qM V V V <| qF V V V zR4 <| qL V V V V ta4 V <| qM V V V ?_
      refine zZ (fun h45 => ?_) (fun h45 => ?_)
      ·
       refine qT V V V V <| qP V V V V <| qP V V V V <| qA V V V <| qN <| zI ?_
       exact zR (.inr V) zS0 V (.of_eq (by congr 1; unfold bareF_; (first | (simp_all; done) | (rw [zH]; simp_all)))) (.bool _) Vv
      ·
       refine qF V V V zG5 <| qL V V V V ta33 V <| qO V <| zZ1 (y := encVw [] []) (zA1 V zG2 zm33 .nil (by kernel_rfl) Vv) (.agg (.cons (.nil 2) (.cons (.nil 3) .nil))) ?_
       refine qX V V V V co72 (zY2 mm [] cp [] _) ?_
       refine qP V V V V <| qP V V V V <| qA V V V <| qN <| zI ?_
       exact zR (.inr V) zS0 V (.of_eq (by congr 1; unfold bareF_; (first | (simp_all; done) | (rw [zH]; simp_all)))) (.bool _) Vv
     ·
      refine qF V V V fo35_8 <| qL V V V V ta29 V <| qE V V zR2 V <| qC V V V V (len0) <| qP V V V V <| qP V V V V <| qM V V V ?_
      refine zZ (fun h42 => ?_) (fun h42 => ?_)
      ·
       refine qF V V V zR4 <| qL V V V V ta4 V <| qM V V V ?_
       refine zZ (fun h45 => ?_) (fun h45 => ?_)
       ·
        refine qT V V V V <| qP V V V V <| qP V V V V <| qA V V V <| qN <| zI ?_
        exact zR (.inr V) zS0 V (.of_eq (by congr 1; unfold bareF_; (first | (simp_all; done) | (rw [zH]; simp_all)))) (.bool _) Vv
       ·
        refine qF V V V zG5 <| qL V V V V ta33 V <| qO V <| zZ1 (y := encVw [] []) (zA1 V zG2 zm33 .nil (by kernel_rfl) Vv) (.agg (.cons (.nil 2) (.cons (.nil 3) .nil))) ?_
        refine qX V V V V co72 (zY2 mm [] cp [] _) ?_
        refine qP V V V V <| qP V V V V <| qA V V V <| qN <| zI ?_
        exact zR (.inr V) zS0 V (.of_eq (by congr 1; unfold bareF_; (first | (simp_all; done) | (rw [zH]; simp_all)))) (.bool _) Vv
      ·
       refine qT V V V V <| qT V V V V <| qP V V V V <| qA V V V <| qN <| zI ?_
       exact zR (.inr V) zS0 V (.of_eq (by congr 1; unfold bareF_; (first | (simp_all; done) | (rw [zH]; simp_all)))) (.bool _) Vv
    ·
     refine qF V V V fo35_7 <| qL V V V V ta28 V <| qE V V zF2 V <| qC V V V V (len0) <| qP V V V V <| qP V V V V <| qM V V V ?_
     refine zZ (fun h32 => ?_) (fun h32 => ?_)
     ·
      refine qF V V V zS6 <| qL V V V V ta4 V <| qM V V V ?_
      refine zZ (fun h35 => ?_) (fun h35 => ?_)
      ·
       refine qT V V V V <| qP V V V V <| qP V V V V <| qM V V V <| qF V V V zR4 <| qL V V V V ta4 V <| qM V V V ?_
       refine zZ (fun h45 => ?_) (fun h45 => ?_)
       ·
        refine qT V V V V <| qP V V V V <| qP V V V V <| qA V V V <| qN <| zI ?_
        exact zR (.inr V) zS0 V (.of_eq (by congr 1; unfold bareF_; (first | (simp_all; done) | (rw [zH]; simp_all)))) (.bool _) Vv
       ·
        refine qF V V V zG5 <| qL V V V V ta33 V <| qO V <| zZ1 (y := encVw [] []) (zA1 V zG2 zm33 .nil (by kernel_rfl) Vv) (.agg (.cons (.nil 2) (.cons (.nil 3) .nil))) ?_
        refine qX V V V V co72 (zY2 mm [] cp [] _) ?_
        refine qP V V V V <| qP V V V V <| qA V V V <| qN <| zI ?_
        exact zR (.inr V) zS0 V (.of_eq (by congr 1; unfold bareF_; (first | (simp_all; done) | (rw [zH]; simp_all)))) (.bool _) Vv
      ·
       refine qF V V V fo35_8 <| qL V V V V ta29 V <| qE V V zR2 V <| qC V V V V (len0) <| qP V V V V <| qP V V V V <| qM V V V ?_
       refine zZ (fun h42 => ?_) (fun h42 => ?_)
       ·
        refine qF V V V zR4 <| qL V V V V ta4 V <| qM V V V ?_
        refine zZ (fun h45 => ?_) (fun h45 => ?_)
        ·
         refine qT V V V V <| qP V V V V <| qP V V V V <| qA V V V <| qN <| zI ?_
         exact zR (.inr V) zS0 V (.of_eq (by congr 1; unfold bareF_; (first | (simp_all; done) | (rw [zH]; simp_all)))) (.bool _) Vv
        ·
         refine qF V V V zG5 <| qL V V V V ta33 V <| qO V <| zZ1 (y := encVw [] []) (zA1 V zG2 zm33 .nil (by kernel_rfl) Vv) (.agg (.cons (.nil 2) (.cons (.nil 3) .nil))) ?_
         refine qX V V V V co72 (zY2 mm [] cp [] _) ?_
         refine qP V V V V <| qP V V V V <| qA V V V <| qN <| zI ?_
         exact zR (.inr V) zS0 V (.of_eq (by congr 1; unfold bareF_; (first | (simp_all; done) | (rw [zH]; simp_all)))) (.bool _) Vv
       ·
        refine qT V V V V <| qT V V V V <| qP V V V V <| qA V V V <| qN <| zI ?_
        exact zR (.inr V) zS0 V (.of_eq (by congr 1; unfold bareF_; (first | (simp_all; done) | (rw [zH]; simp_all)))) (.bool _) Vv
     ·
      refine qT V V V V <| qT V V V V <| qP V V V V <| qM V V V <| qT V V V V <| qT V V V V <| qP V V V V <| qA V V V <| qN <| zI ?_
      exact zR (.inr V) zS0 V (.of_eq (by congr 1; unfold bareF_; (first | (simp_all; done) | (rw [zH]; simp_all)))) (.bool _) Vv
   ·
    refine qF V V V fo35_6 <| qL V V V V ta27 V <| qO V <| zZ1 (y := encV noV) (zA1 V zU1 zm27 .nil (by kernel_rfl) Vv) (.agg (.cons (.refl _) (.cons (.refl _) (.cons (.nil 1) (.cons (.nil 1) (.cons (.nil 5) .nil)))))) ?_
    refine qX V V V V co68 (valSame_spec (.mk n m s q w) noV _) ?_
    refine qP V V V V <| qP V V V V <| qM V V V ?_
    refine zZ (fun h22 => ?_) (fun h22 => ?_)
    ·
     refine qF V V V fo104_2 <| qL V V V V ta4 V <| qM V V V ?_
     refine zZ (fun h25 => ?_) (fun h25 => ?_)
     ·
      refine qT V V V V <| qP V V V V <| qP V V V V <| qM V V V <| qF V V V zS6 <| qL V V V V ta4 V <| qM V V V ?_
      refine zZ (fun h35 => ?_) (fun h35 => ?_)
      ·
       refine qT V V V V <| qP V V V V <| qP V V V V <| qM V V V <| qF V V V zR4 <| qL V V V V ta4 V <| qM V V V ?_
       refine zZ (fun h45 => ?_) (fun h45 => ?_)
       ·
        refine qT V V V V <| qP V V V V <| qP V V V V <| qA V V V <| qN <| zI ?_
        exact zR (.inr V) zS0 V (.of_eq (by congr 1; unfold bareF_; (first | (simp_all; done) | (rw [zH]; simp_all)))) (.bool _) Vv
       ·
        refine qF V V V zG5 <| qL V V V V ta33 V <| qO V <| zZ1 (y := encVw [] []) (zA1 V zG2 zm33 .nil (by kernel_rfl) Vv) (.agg (.cons (.nil 2) (.cons (.nil 3) .nil))) ?_
        refine qX V V V V co72 (zY2 mm [] cp [] _) ?_
        refine qP V V V V <| qP V V V V <| qA V V V <| qN <| zI ?_
        exact zR (.inr V) zS0 V (.of_eq (by congr 1; unfold bareF_; (first | (simp_all; done) | (rw [zH]; simp_all)))) (.bool _) Vv
      ·
       refine qF V V V fo35_8 <| qL V V V V ta29 V <| qE V V zR2 V <| qC V V V V (len0) <| qP V V V V <| qP V V V V <| qM V V V ?_
       refine zZ (fun h42 => ?_) (fun h42 => ?_)
       ·
        refine qF V V V zR4 <| qL V V V V ta4 V <| qM V V V ?_
        refine zZ (fun h45 => ?_) (fun h45 => ?_)
        ·
         refine qT V V V V <| qP V V V V <| qP V V V V <| qA V V V <| qN <| zI ?_
         exact zR (.inr V) zS0 V (.of_eq (by congr 1; unfold bareF_; (first | (simp_all; done) | (rw [zH]; simp_all)))) (.bool _) Vv
        ·
         refine qF V V V zG5 <| qL V V V V ta33 V <| qO V <| zZ1 (y := encVw [] []) (zA1 V zG2 zm33 .nil (by kernel_rfl) Vv) (.agg (.cons (.nil 2) (.cons (.nil 3) .nil))) ?_
         refine qX V V V V co72 (zY2 mm [] cp [] _) ?_
         refine qP V V V V <| qP V V V V <| qA V V V <| qN <| zI ?_
         exact zR (.inr V) zS0 V (.of_eq (by congr 1; unfold bareF_; (first | (simp_all; done) | (rw [zH]; simp_all)))) (.bool _) Vv
       ·
        refine qT V V V V <| qT V V V V <| qP V V V V <| qA V V V <| qN <| zI ?_
        exact zR (.inr V) zS0 V (.of_eq (by congr 1; unfold bareF_; (first | (simp_all; done) | (rw [zH]; simp_all)))) (.bool _) Vv
     ·
      refine qF V V V fo35_7 <| qL V V V V ta28 V <| qE V V zF2 V <| qC V V V V (len0) <| qP V V V V <| qP V V V V <| qM V V V ?_
      refine zZ (fun h32 => ?_) (fun h32 => ?_)
      ·
       refine qF V V V zS6 <| qL V V V V ta4 V <| qM V V V ?_
       refine zZ (fun h35 => ?_) (fun h35 => ?_)
       ·
        refine qT V V V V <| qP V V V V <| qP V V V V <| qM V V V <| qF V V V zR4 <| qL V V V V ta4 V <| qM V V V ?_
        refine zZ (fun h45 => ?_) (fun h45 => ?_)
        ·
         refine qT V V V V <| qP V V V V <| qP V V V V <| qA V V V <| qN <| zI ?_
         exact zR (.inr V) zS0 V (.of_eq (by congr 1; unfold bareF_; (first | (simp_all; done) | (rw [zH]; simp_all)))) (.bool _) Vv
        ·
         refine qF V V V zG5 <| qL V V V V ta33 V <| qO V <| zZ1 (y := encVw [] []) (zA1 V zG2 zm33 .nil (by kernel_rfl) Vv) (.agg (.cons (.nil 2) (.cons (.nil 3) .nil))) ?_
         refine qX V V V V co72 (zY2 mm [] cp [] _) ?_
         refine qP V V V V <| qP V V V V <| qA V V V <| qN <| zI ?_
         exact zR (.inr V) zS0 V (.of_eq (by congr 1; unfold bareF_; (first | (simp_all; done) | (rw [zH]; simp_all)))) (.bool _) Vv
       ·
        refine qF V V V fo35_8 <| qL V V V V ta29 V <| qE V V zR2 V <| qC V V V V (len0) <| qP V V V V <| qP V V V V <| qM V V V ?_
        refine zZ (fun h42 => ?_) (fun h42 => ?_)
        ·
         refine qF V V V zR4 <| qL V V V V ta4 V <| qM V V V ?_
         refine zZ (fun h45 => ?_) (fun h45 => ?_)
         ·
          refine qT V V V V <| qP V V V V <| qP V V V V <| qA V V V <| qN <| zI ?_
          exact zR (.inr V) zS0 V (.of_eq (by congr 1; unfold bareF_; (first | (simp_all; done) | (rw [zH]; simp_all)))) (.bool _) Vv
         ·
          refine qF V V V zG5 <| qL V V V V ta33 V <| qO V <| zZ1 (y := encVw [] []) (zA1 V zG2 zm33 .nil (by kernel_rfl) Vv) (.agg (.cons (.nil 2) (.cons (.nil 3) .nil))) ?_
          refine qX V V V V co72 (zY2 mm [] cp [] _) ?_
          refine qP V V V V <| qP V V V V <| qA V V V <| qN <| zI ?_
          exact zR (.inr V) zS0 V (.of_eq (by congr 1; unfold bareF_; (first | (simp_all; done) | (rw [zH]; simp_all)))) (.bool _) Vv
        ·
         refine qT V V V V <| qT V V V V <| qP V V V V <| qA V V V <| qN <| zI ?_
         exact zR (.inr V) zS0 V (.of_eq (by congr 1; unfold bareF_; (first | (simp_all; done) | (rw [zH]; simp_all)))) (.bool _) Vv
      ·
       refine qT V V V V <| qT V V V V <| qP V V V V <| qM V V V <| qT V V V V <| qT V V V V <| qP V V V V <| qA V V V <| qN <| zI ?_
       exact zR (.inr V) zS0 V (.of_eq (by congr 1; unfold bareF_; (first | (simp_all; done) | (rw [zH]; simp_all)))) (.bool _) Vv
    ·
     refine qT V V V V <| qT V V V V <| qP V V V V <| qM V V V <| qT V V V V <| qT V V V V <| qP V V V V <| qM V V V <| qT V V V V <| qS V <| qS V ?_
     refine qS V <| qS V <| qP V V V V <| qA V V V <| qN <| zI ?_
     exact zR (.inr V) zS0 V (.of_eq (by congr 1; unfold bareF_; (first | (simp_all; done) | (rw [zH]; simp_all)))) (.bool _) Vv
  ·
   refine qT V V V V <| qT V V V V <| qP V V V V <| qM V V V <| qT V V V V <| qT V V V V <| qP V V V V <| qM V V V <| qT V V V V <| qS V <| qS V ?_
   refine qS V <| qS V <| qP V V V V <| qM V V V <| qT V V V V <| qT V V V V <| qP V V V V <| qA V V V <| qN <| zI ?_
   exact zR (.inr V) zS0 V (.of_eq (by congr 1; unfold bareF_; (first | (simp_all; done) | (rw [zH]; simp_all)))) (.bool _) Vv
theorem _root_.zY1 : type_of% @Tryz.results13 := @Tryz.results13
theorem letIs_spec (t : List Tbl) (k f to i c : Int) (key : Bs) (x : Val) (es : List Ety) (su : List Su) (mm : List Mm) (cp : List Cp) (ox : okV x) (oe : ∀ e ∈ es, okV e.2) (hcp : cp.length ≤ 4000000) (S : MS) : MCalls Tryz.prog 13 [.lst none 4 (t.map encTb), encLt k f to i c key x es su mm cp] S fun v σ' => v = .bool (letF t k f to c key x es su mm cp) ∧ σ' = S := by
 obtain ⟨n, m, s, q, w⟩ := x
 refine zM Tryz.func13 V Tryz.ntmps13 (zA V) ?_
 obtain ⟨⟨p1, p2, p3, p4, p5⟩, hP⟩ : ∃ z, ofP k c = z := ⟨_, rfl⟩
 have hof := of_spec k f to i c key (.mk n m s q w) es su mm cp
 rw [hP] at hof
 have hba := bareL_spec (p1, p2, p3, p4, p5) k f to i c key (.mk n m s q w) es su mm cp
 obtain ⟨bb, hbb⟩ : ∃ z, bareF_ (p1, p2, p3, p4, p5) key (.mk n m s q w) es su mm cp = z := ⟨_, rfl⟩
 rw [hbb] at hba
 obtain ⟨⟨fn, fl, ⟨fk, fi⟩⟩, hft⟩ : ∃ z, (findP t key).getD tb0 = z := ⟨_, rfl⟩
 obtain ⟨fb, hfb⟩ : ∃ z, (findP t key).isSome = z := ⟨_, rfl⟩
 have hfs := find_spec t key
 rw [hft, hfb] at hfs
 obtain ⟨rb, hrb⟩ : ∃ z, rightF t = z := ⟨_, rfl⟩
 have hrs := right_spec t
 rw [hrb] at hrs
 obtain ⟨vb, hvb⟩ : ∃ z, okVal t key (.mk n m s q w) = z := ⟨_, rfl⟩
 have hvs := isValue_spec t key (.mk n m s q w) ox
 rw [hvb] at hvs
 obtain ⟨wb, hwb⟩ : ∃ z, viewF mm cp = z := ⟨_, rfl⟩
 have hws := viewIs_spec mm cp hcp
 rw [hwb] at hws
 have hL : letF t k f to c key (.mk n m s q w) es su mm cp = (rb && decide (1 ≤ k) && decide (k ≤ 10) && placeF f && placeF to && decide (0 ≤ c) && decide (c ≤ 100) && bb && (!p1 || fb) && (!p2 || vb) && wb && entsF t es (k == 8) && rowF t (su.map Prod.fst)) := by
  unfold letF
  rw [hP, hbb, hrb, hfb, hvb, hwb]
 rw [hL]
 refine zB <| qR V <| qB V V V V V <| qA V V V <| qN <| zB <| qR V <| qL V V V V ta35 V ?_
 refine qX V V V V co54 (hof _) ?_
 refine qO V <| zN0 V zm104 V V <| qO V <| zC0 V V V V sz104 V V (zA V) V <| qN <| zB <| zB <| qR V <| qM V V V ?_
 refine qX V V V V co22 (hrs _) ?_
 refine qO V <| zC1 V V <| qM V V V ?_
 refine zZ (fun h13 => ?_) (fun h13 => ?_)
 ·
  refine qS V <| qS V <| qS V <| qP V V V V <| qM V V V <| qS V <| qS V <| qS V <| qP V V V V <| qM V V V <| qT V V V V <| qP V V V V <| qM V V V <| qT V V V V <| qP V V V V <| qM V V V ?_
  refine qS V <| qS V <| qS V <| qP V V V V <| qM V V V <| qS V <| qS V <| qS V <| qP V V V V <| qM V V V <| qT V V V V <| qP V V V V <| qN <| zT V (V) <| zB <| qR V <| qA V V V <| qN <| zI ?_
  exact zR (.inr V) zY1 V (.of_eq (by congr 1; clear hL hof hba hfs hrs hvs hws hft; (first | (simp_all; done) | (rw [zH]; simp_all; done) | (rw [zH]; simp_all; omega) | (simp_all; omega)))) (.bool _) Vv
 ·
  refine qF V V V zJ6 <| qL V V V V ta3 V <| qC V V V V V <| qP V V V V <| qM V V V ?_
  refine zZ (fun h18 => ?_) (fun h18 => ?_)
  ·
   refine qS V <| qS V <| qS V <| qP V V V V <| qM V V V <| qT V V V V <| qP V V V V <| qM V V V <| qT V V V V <| qP V V V V <| qM V V V <| qS V <| qS V <| qS V <| qP V V V V <| qM V V V ?_
   refine qS V <| qS V <| qS V <| qP V V V V <| qM V V V <| qT V V V V <| qP V V V V <| qN <| zT V (V) <| zB <| qR V <| qA V V V <| qN <| zI ?_
   exact zR (.inr V) zY1 V (.of_eq (by congr 1; clear hL hof hba hfs hrs hvs hws hft; (first | (simp_all; done) | (rw [zH]; simp_all; done) | (rw [zH]; simp_all; omega) | (simp_all; omega)))) (.bool _) Vv
  ·
   refine qF V V V zJ6 <| qL V V V V ta3 V <| qC V V V V V <| qP V V V V <| qM V V V ?_
   refine zZ (fun h23 => ?_) (fun h23 => ?_)
   ·
    refine qT V V V V <| qP V V V V <| qM V V V <| qT V V V V <| qP V V V V <| qM V V V <| qS V <| qS V <| qS V <| qP V V V V <| qM V V V <| qS V <| qS V <| qS V <| qP V V V V <| qM V V V ?_
    refine qT V V V V <| qP V V V V <| qN <| zT V (V) <| zB <| qR V <| qA V V V <| qN <| zI ?_
    exact zR (.inr V) zY1 V (.of_eq (by congr 1; clear hL hof hba hfs hrs hvs hws hft; (first | (simp_all; done) | (rw [zH]; simp_all; done) | (rw [zH]; simp_all; omega) | (simp_all; omega)))) (.bool _) Vv
   ·
    refine qF V V V fo35_1 <| qL V V V V ta3 V ?_
    refine qX V V V V co55 (isPlace_spec f _) ?_
    refine qO V <| zC1 V V <| qP V V V V <| qM V V V ?_
    refine zZ (fun h29 => ?_) (fun h29 => ?_)
    ·
     refine qT V V V V <| qP V V V V <| qM V V V <| qS V <| qS V <| qS V <| qP V V V V <| qM V V V <| qS V <| qS V <| qS V <| qP V V V V <| qM V V V <| qT V V V V <| qP V V V V <| qN <| zT V (V) ?_
     refine zB <| qR V <| qA V V V <| qN <| zI ?_
     exact zR (.inr V) zY1 V (.of_eq (by congr 1; clear hL hof hba hfs hrs hvs hws hft; (first | (simp_all; done) | (rw [zH]; simp_all; done) | (rw [zH]; simp_all; omega) | (simp_all; omega)))) (.bool _) Vv
    ·
     refine qF V V V fo35_2 <| qL V V V V ta3 V ?_
     refine qX V V V V co55 (isPlace_spec to _) ?_
     refine qO V <| zC1 V V <| qP V V V V <| qM V V V ?_
     refine zZ (fun h35 => ?_) (fun h35 => ?_)
     ·
      refine qS V <| qS V <| qS V <| qP V V V V <| qM V V V <| qS V <| qS V <| qS V <| qP V V V V <| qM V V V <| qT V V V V <| qP V V V V <| qN <| zT V (V) <| zB <| qR V <| qA V V V <| qN <| zI ?_
      exact zR (.inr V) zY1 V (.of_eq (by congr 1; clear hL hof hba hfs hrs hvs hws hft; (first | (simp_all; done) | (rw [zH]; simp_all; done) | (rw [zH]; simp_all; omega) | (simp_all; omega)))) (.bool _) Vv
     ·
      refine qF V V V fo35_4 <| qL V V V V ta3 V <| qC V V V V V <| qP V V V V <| qM V V V ?_
      refine zZ (fun h40 => ?_) (fun h40 => ?_)
      ·
       refine qS V <| qS V <| qS V <| qP V V V V <| qM V V V <| qT V V V V <| qP V V V V <| qN <| zT V (V) <| zB <| qR V <| qA V V V <| qN <| zI ?_
       exact zR (.inr V) zY1 V (.of_eq (by congr 1; clear hL hof hba hfs hrs hvs hws hft; (first | (simp_all; done) | (rw [zH]; simp_all; done) | (rw [zH]; simp_all; omega) | (simp_all; omega)))) (.bool _) Vv
      ·
       refine qF V V V fo35_4 <| qL V V V V ta3 V <| qC V V V V V <| qP V V V V <| qM V V V ?_
       refine zZ (fun h45 => ?_) (fun h45 => ?_)
       ·
        refine qT V V V V <| qP V V V V <| qN <| zT V (V) <| zB <| qR V <| qA V V V <| qN <| zI ?_
        exact zR (.inr V) zY1 V (.of_eq (by congr 1; clear hL hof hba hfs hrs hvs hws hft; (first | (simp_all; done) | (rw [zH]; simp_all; done) | (rw [zH]; simp_all; omega) | (simp_all; omega)))) (.bool _) Vv
       ·
        refine qL V V V V ta104 V <| qL V V V V ta35 V ?_
        refine qX V V V V co56 (hba _) ?_
        refine qO V <| zC1 V V <| qP V V V V <| qN ?_
        refine zJ V (fun h50 => ?_) (fun h50 => ?_)
        ·
         refine zB <| qR V <| qA V V V <| qN <| zI ?_
         exact zR (.inr V) zY1 V (.of_eq (by congr 1; clear hL hof hba hfs hrs hvs hws hft; (first | (simp_all; done) | (rw [zH]; simp_all; done) | (rw [zH]; simp_all; omega) | (simp_all; omega)))) (.bool _) Vv
        ·
         refine zQ <| zB <| zB <| qR V <| qM V V V <| qF V V V fo35_5 <| qL V V V V ta9 V ?_
         refine qX V V V V co20 (hfs _) ?_
         refine qM V V V <| qO V <| zJ0 V V V <| qO V <| zJ0 V V V <| qO V <| zN0 V zm55 V V <| qO V <| zC0 V V V V sz55 V V (zA V) V <| qA V V V <| qN <| zB <| qR V <| qF V V V fo104_0 <| qL V V V V ta4 V <| qM V V V ?_
         refine zZ (fun h60 => ?_) (fun h60 => ?_)
         ·
          refine qM V V V <| qO V <| zC1 V V <| qP V V V V <| qM V V V ?_
          refine zZ (fun h64 => ?_) (fun h64 => ?_)
          ·
           refine qT V V V V <| qT V V V V <| qS V <| qS V <| qS V <| qP V V V V <| qM V V V <| qT V V V V <| qP V V V V <| qN <| zT V (V) <| zB <| qR V <| qA V V V <| qN <| zI ?_
           exact zR (.inr V) zY1 V (.of_eq (by congr 1; clear hL hof hba hfs hrs hvs hws hft; (first | (simp_all; done) | (rw [zH]; simp_all; done) | (rw [zH]; simp_all; omega) | (simp_all; omega)))) (.bool _) Vv
          ·
           refine qF V V V fo104_1 <| qL V V V V ta4 V <| qM V V V ?_
           refine zZ (fun h67 => ?_) (fun h67 => ?_)
           ·
            refine qM V V V <| qF V V V fo35_5 <| qL V V V V ta9 V <| qF V V V fo35_6 <| qL V V V V ta27 V ?_
            refine qX V V V V co57 (hvs _) ?_
            refine qO V <| zC1 V V <| qP V V V V <| qP V V V V <| qM V V V ?_
            refine zZ (fun h77 => ?_) (fun h77 => ?_)
            ·
             refine qT V V V V <| qP V V V V <| qN <| zT V (V) <| zB <| qR V <| qA V V V <| qN <| zI ?_
             exact zR (.inr V) zY1 V (.of_eq (by congr 1; clear hL hof hba hfs hrs hvs hws hft; (first | (simp_all; done) | (rw [zH]; simp_all; done) | (rw [zH]; simp_all; omega) | (simp_all; omega)))) (.bool _) Vv
            ·
             refine qF V V V zG5 <| qL V V V V ta33 V ?_
             refine qX V V V V co58 (hws _) ?_
             refine qO V <| zC1 V V <| qP V V V V <| qN ?_
             refine zJ V (fun h82 => ?_) (fun h82 => ?_)
             ·
              refine zB <| qR V <| qA V V V <| qN <| zI ?_
              exact zR (.inr V) zY1 V (.of_eq (by congr 1; clear hL hof hba hfs hrs hvs hws hft; (first | (simp_all; done) | (rw [zH]; simp_all; done) | (rw [zH]; simp_all; omega) | (simp_all; omega)))) (.bool _) Vv
             ·
              refine zQ <| zB <| qR V <| qM V V V <| qF V V V fo35_7 <| qL V V V V ta28 V <| qF V V V zJ6 <| qL V V V V ta3 V <| qC V V V V V ?_
              refine qX V V V V co59 (isEntries_spec t es (k == 8) oe _) ?_
              refine qM V V V ?_
              refine zZ (fun h90 => ?_) (fun h90 => ?_)
              ·
               refine qM V V V <| qF V V V fo35_8 <| qL V V V V ta29 V ?_
               refine qX V V V V co60 (isRowS_spec t su _) ?_
               refine qP V V V V <| qA V V V <| qN <| zI ?_
               exact zR (.inr V) zY1 V (.of_eq (by congr 1; clear hL hof hba hfs hrs hvs hws hft; (first | (simp_all; done) | (rw [zH]; simp_all; done) | (rw [zH]; simp_all; omega) | (simp_all; omega)))) (.bool _) Vv
              ·
               refine qT V V V V <| qP V V V V <| qA V V V <| qN <| zI ?_
               exact zR (.inr V) zY1 V (.of_eq (by congr 1; clear hL hof hba hfs hrs hvs hws hft; (first | (simp_all; done) | (rw [zH]; simp_all; done) | (rw [zH]; simp_all; omega) | (simp_all; omega)))) (.bool _) Vv
           ·
            refine qT V V V V <| qS V <| qS V <| qS V <| qP V V V V <| qP V V V V <| qM V V V <| qF V V V zG5 <| qL V V V V ta33 V ?_
            refine qX V V V V co58 (hws _) ?_
            refine qO V <| zC1 V V <| qP V V V V <| qN ?_
            refine zJ V (fun h82 => ?_) (fun h82 => ?_)
            ·
             refine zB <| qR V <| qA V V V <| qN <| zI ?_
             exact zR (.inr V) zY1 V (.of_eq (by congr 1; clear hL hof hba hfs hrs hvs hws hft; (first | (simp_all; done) | (rw [zH]; simp_all; done) | (rw [zH]; simp_all; omega) | (simp_all; omega)))) (.bool _) Vv
            ·
             refine zQ <| zB <| qR V <| qM V V V <| qF V V V fo35_7 <| qL V V V V ta28 V <| qF V V V zJ6 <| qL V V V V ta3 V <| qC V V V V V ?_
             refine qX V V V V co59 (isEntries_spec t es (k == 8) oe _) ?_
             refine qM V V V ?_
             refine zZ (fun h90 => ?_) (fun h90 => ?_)
             ·
              refine qM V V V <| qF V V V fo35_8 <| qL V V V V ta29 V ?_
              refine qX V V V V co60 (isRowS_spec t su _) ?_
              refine qP V V V V <| qA V V V <| qN <| zI ?_
              exact zR (.inr V) zY1 V (.of_eq (by congr 1; clear hL hof hba hfs hrs hvs hws hft; (first | (simp_all; done) | (rw [zH]; simp_all; done) | (rw [zH]; simp_all; omega) | (simp_all; omega)))) (.bool _) Vv
             ·
              refine qT V V V V <| qP V V V V <| qA V V V <| qN <| zI ?_
              exact zR (.inr V) zY1 V (.of_eq (by congr 1; clear hL hof hba hfs hrs hvs hws hft; (first | (simp_all; done) | (rw [zH]; simp_all; done) | (rw [zH]; simp_all; omega) | (simp_all; omega)))) (.bool _) Vv
         ·
          refine qS V <| qS V <| qP V V V V <| qM V V V <| qF V V V fo104_1 <| qL V V V V ta4 V <| qM V V V ?_
          refine zZ (fun h67 => ?_) (fun h67 => ?_)
          ·
           refine qM V V V <| qF V V V fo35_5 <| qL V V V V ta9 V <| qF V V V fo35_6 <| qL V V V V ta27 V ?_
           refine qX V V V V co57 (hvs _) ?_
           refine qO V <| zC1 V V <| qP V V V V <| qP V V V V <| qM V V V ?_
           refine zZ (fun h77 => ?_) (fun h77 => ?_)
           ·
            refine qT V V V V <| qP V V V V <| qN <| zT V (V) <| zB <| qR V <| qA V V V <| qN <| zI ?_
            exact zR (.inr V) zY1 V (.of_eq (by congr 1; clear hL hof hba hfs hrs hvs hws hft; (first | (simp_all; done) | (rw [zH]; simp_all; done) | (rw [zH]; simp_all; omega) | (simp_all; omega)))) (.bool _) Vv
           ·
            refine qF V V V zG5 <| qL V V V V ta33 V ?_
            refine qX V V V V co58 (hws _) ?_
            refine qO V <| zC1 V V <| qP V V V V <| qN ?_
            refine zJ V (fun h82 => ?_) (fun h82 => ?_)
            ·
             refine zB <| qR V <| qA V V V <| qN <| zI ?_
             exact zR (.inr V) zY1 V (.of_eq (by congr 1; clear hL hof hba hfs hrs hvs hws hft; (first | (simp_all; done) | (rw [zH]; simp_all; done) | (rw [zH]; simp_all; omega) | (simp_all; omega)))) (.bool _) Vv
            ·
             refine zQ <| zB <| qR V <| qM V V V <| qF V V V fo35_7 <| qL V V V V ta28 V <| qF V V V zJ6 <| qL V V V V ta3 V <| qC V V V V V ?_
             refine qX V V V V co59 (isEntries_spec t es (k == 8) oe _) ?_
             refine qM V V V ?_
             refine zZ (fun h90 => ?_) (fun h90 => ?_)
             ·
              refine qM V V V <| qF V V V fo35_8 <| qL V V V V ta29 V ?_
              refine qX V V V V co60 (isRowS_spec t su _) ?_
              refine qP V V V V <| qA V V V <| qN <| zI ?_
              exact zR (.inr V) zY1 V (.of_eq (by congr 1; clear hL hof hba hfs hrs hvs hws hft; (first | (simp_all; done) | (rw [zH]; simp_all; done) | (rw [zH]; simp_all; omega) | (simp_all; omega)))) (.bool _) Vv
             ·
              refine qT V V V V <| qP V V V V <| qA V V V <| qN <| zI ?_
              exact zR (.inr V) zY1 V (.of_eq (by congr 1; clear hL hof hba hfs hrs hvs hws hft; (first | (simp_all; done) | (rw [zH]; simp_all; done) | (rw [zH]; simp_all; omega) | (simp_all; omega)))) (.bool _) Vv
          ·
           refine qT V V V V <| qS V <| qS V <| qS V <| qP V V V V <| qP V V V V <| qM V V V <| qF V V V zG5 <| qL V V V V ta33 V ?_
           refine qX V V V V co58 (hws _) ?_
           refine qO V <| zC1 V V <| qP V V V V <| qN ?_
           refine zJ V (fun h82 => ?_) (fun h82 => ?_)
           ·
            refine zB <| qR V <| qA V V V <| qN <| zI ?_
            exact zR (.inr V) zY1 V (.of_eq (by congr 1; clear hL hof hba hfs hrs hvs hws hft; (first | (simp_all; done) | (rw [zH]; simp_all; done) | (rw [zH]; simp_all; omega) | (simp_all; omega)))) (.bool _) Vv
           ·
            refine zQ <| zB <| qR V <| qM V V V <| qF V V V fo35_7 <| qL V V V V ta28 V <| qF V V V zJ6 <| qL V V V V ta3 V <| qC V V V V V ?_
            refine qX V V V V co59 (isEntries_spec t es (k == 8) oe _) ?_
            refine qM V V V ?_
            refine zZ (fun h90 => ?_) (fun h90 => ?_)
            ·
             refine qM V V V <| qF V V V fo35_8 <| qL V V V V ta29 V ?_
             refine qX V V V V co60 (isRowS_spec t su _) ?_
             refine qP V V V V <| qA V V V <| qN <| zI ?_
             exact zR (.inr V) zY1 V (.of_eq (by congr 1; clear hL hof hba hfs hrs hvs hws hft; (first | (simp_all; done) | (rw [zH]; simp_all; done) | (rw [zH]; simp_all; omega) | (simp_all; omega)))) (.bool _) Vv
            ·
             refine qT V V V V <| qP V V V V <| qA V V V <| qN <| zI ?_
             exact zR (.inr V) zY1 V (.of_eq (by congr 1; clear hL hof hba hfs hrs hvs hws hft; (first | (simp_all; done) | (rw [zH]; simp_all; done) | (rw [zH]; simp_all; omega) | (simp_all; omega)))) (.bool _) Vv
end Go.Proofs.YtciimaabeabkdaaGreatDoor
namespace Go.Proofs.YtciimaabeabkdaaGreatDoor
open Go Go.MV Go.RowKit
structure WrAt (S : MS) (id t : Nat) (l : Bs) (T : MV) : Prop where
 ne : id ≠ t
 ob : ∃ p, (p = .ptr0 ∨ p = .ref id 0) ∧ S[id]? = some (.tcells 121 [p, .lst (some t) 1 (l.map encY), T])
 row : S[t]? = some (.row 5 1 l.length)
theorem WrAt.idl {S : MS} {id t : Nat} {l : Bs} {T : MV} (h : WrAt S id t l T) : id < S.length := by
 obtain ⟨p, _, hp⟩ := h.ob
 exact (zD.1 hp).1
theorem WrAt.tl {S : MS} {id t : Nat} {l : Bs} {T : MV} (h : WrAt S id t l T) : t < S.length := (zD.1 h.row).1
theorem WrAt.wr {S : MS} {id t : Nat} {l : Bs} {T : MV} (h : WrAt S id t l T) (m : Bs) : WrAt (wr S id t m T) id t m T := by
 refine ⟨h.ne, ⟨_, .inr rfl, ?_⟩, ?_⟩
 ·unfold Go.Proofs.YtciimaabeabkdaaGreatDoor.wr wrO
  exact get_neO h.ne.symm (by rw [List.getElem?_set_self h.idl])
 ·unfold Go.Proofs.YtciimaabeabkdaaGreatDoor.wr
  rw [List.getElem?_set_self (by simpa using h.tl)]
theorem WrAt.sl {S : MS} {id t : Nat} {l : Bs} {T : MV} (h : WrAt S id t l T) (L : MS) : WrAt (S ++ L) id t l T := by
 obtain ⟨p, hp, ho⟩ := h.ob
 exact ⟨h.ne, ⟨p, hp, zK1 ho⟩, zK1 h.row⟩
theorem wr_sl {S : MS} {id t : Nat} {l m : Bs} {T : MV} (h : WrAt S id t l T) (L : MS) : wr (S ++ L) id t m T = wr S id t m T ++ L := by
 unfold wr
 rw [List.set_append_left _ _ h.idl, List.set_append_left _ _ (by simpa using h.tl)]
theorem wr_wr {S : MS} {id t : Nat} {l m n : Bs} {T : MV} (h : WrAt S id t l T) : wr (wr S id t m T) id t n T = wr S id t n T := by
 unfold wr
 rw [List.set_comm _ _ h.ne.symm, List.set_set, List.set_set]
theorem WrAt.T {S : MS} {id t : Nat} {l : Bs} {T : MV} (h : WrAt S id t l T) (hc : ClS S) : Cl S.length T := by
 obtain ⟨p, _, hp⟩ := h.ob
 exact hc id _ hp T (by simp)
theorem writeW_at {S : MS} {id t : Nat} {l : Bs} {T : MV} (h : WrAt S id t l T) (s : Bs) (hlen : l.length + s.length ≤ 10000000) (L : MS) : MCalls Tryz.prog 125 [.ref id 0, .str (bs s)] (S ++ L) fun v σ' => v = .tup [.int .i64 (s.length : Int), .iface0] ∧ σ' = wr S id t (l ++ s) T ++ L := by
 obtain ⟨p, hp, ho⟩ := (h.sl L).ob
 refine (writeW_spec id t p T hp l s h.ne _ ho (h.sl L).row hlen).mono fun v σ' hv => ⟨hv.1, ?_⟩
 rw [hv.2, wr_sl h]
def WritesW (T : MV) (k : FuncId) (id t : Nat) (xs : List MV) (s : Bs) : Prop := ∀ (l : Bs) (S : MS), WrAt S id t l T → l.length + s.length ≤ 8000000 → MCalls Tryz.prog k xs S fun v σ' => v = .tup [] ∧ σ' = wr S id t (l ++ s) T
theorem WritesW.sl {T : MV} {k : FuncId} {id t : Nat} {xs : List MV} {s l : Bs} (hw : WritesW T k id t xs s) {S : MS} (h : WrAt S id t l T) (hl : l.length + s.length ≤ 8000000) (L : MS) : MCalls Tryz.prog k xs (S ++ L) fun v σ' => v = .tup [] ∧ σ' = wr S id t (l ++ s) T ++ L :=
 (hw l (S ++ L) (h.sl L) hl).mono fun v σ' hv => ⟨hv.1, by rw [hv.2, wr_sl h]⟩
def encU (k : Nat) : MV := .int .u64 (k : Int)
theorem nums_take {s : List Nat} {i x : Nat} (h : s[i]? = some x) : (s.take (i + 1)).flatMap numB = (s.take i).flatMap numB ++ numB x := by
 rw [List.take_add_one, h, List.flatMap_append]
 simp
theorem nums_len {s : List Nat} (h : ∀ x ∈ s, x < 18446744073709551616) : ∀ i, ((s.take i).flatMap numB).length ≤ i * 10
 | 0 => by simp
 | i + 1 => by
  have ih := nums_len h i
  rw [List.take_add_one, List.flatMap_append, zG]
  cases hs : s[i]? with
  | none => simp only [Option.toList_none, List.flatMap_nil, List.length_nil]; omega
  | some x =>
   have := zP2 9 x (by have := h x (zW hs); omega)
   simp only [Option.toList_some, List.flatMap_cons, List.flatMap_nil, List.append_nil]
   omega
theorem long_spec (h : Int) (S : MS) : MCalls Tryz.prog 64 [.int .u64 h] S fun v σ' => v = .str (bs (leB 8 h)) ∧ σ' = S := by
 refine zM Tryz.func64 V Tryz.ntmps64 (zA V) ?_
 refine zB <| qR V <| qA V V V <| qN <| zB <| qR V <| qO V <| op_makeSliceV V zE2 el5 zm5 V V V (by decide) (by decide) ?_
 rw [List.append_nil]
 refine qA V V V <| qN <| zB <| zB <| qR V <| qM V V V <| qO V <| op_len_vec V zE2 V <| qM V V V <| qN <| zX ?_
 refine zS1 (α := Nat) [(0, _), (3, _), (7, _)] (fun i => [(8, .int .i64 (i : Int))]) (fun i => [.cells ((eUp h i).map encY ++ List.replicate (8 - i) (.int .u8 0))]) (fun i => i ≤ 8) (fun i => 8 - i) (0) (.keep V (.keep V (.keep V (.nil)))) (.keep V (.nil)) (by omega) (V) ?_
 rintro i hi
 refine zB <| qR V <| qC V V V V V <| qN <| zB ?_
 refine zJ V (fun h9 => ?_) (fun h9 => ?_)
 ·
  have hlt : i < 8 := by simp at h9; omega
  refine zQ <| zB <| zX <| zB <| qR V <| qM V V V <| qA V V V <| qN <| qR V <| qM V V V <| qM V V V <| qM V V V <| qM V V V <| qO V <| zT0 V V V (wmul (a := 8) (b := i) V (by omega)) ?_
  refine qO V <| op_shr V V V (by omega) V ?_
  refine qO V <| zX1 V zZ0 zK3 V (u8_wrap _) <| qO V <| op_indexAddr_vec V zE2 sz5 V V V hlt <| qO V <| zQ5 V V V (by simp : (S ++ [MObj.cells ((eUp h i).map encY ++ List.replicate (8 - i) (.int .u8 0))])[S.length]? = some (.cells ((eUp h i).map encY ++ List.replicate (8 - i) (.int .u8 0)))) sz5 V V (by simp [eUp_len]; omega) ?_
  refine zU6 (S ++ [MObj.cells ((eUp h (i + 1)).map encY ++ List.replicate (8 - (i + 1)) (.int .u8 0))]) (eb_st hlt) <| qN <| qR V <| qO V <| zT0 V V V V <| qM V V V <| qN ?_
  refine ⟨i + 1, by omega, by omega, rfl, (.keep V (.keep V (.keep V (.nil)))), (.eq V (zQ1 hlt (by decide)) (.nil))⟩
 ·
  have hge : i = 8 := by simp at h9; omega
  subst hge
  refine zM1 <| zB <| qR V <| qM V V V <| qO V <| op_conv_vec (l := eUp h 8) V zE2 zK3 zV0 (by rw [eUp_len]; try rfl) (by simp : (S ++ [MObj.cells ((eUp h 8).map encY ++ List.replicate (8 - 8) (.int .u8 0))])[S.length]? = some (.cells ((eUp h 8).map encY ++ List.replicate (8 - 8) (.int .u8 0)))) (eb_take h) ?_
  refine qA V V V <| qN <| zI ?_
  exact zR (.inr V) Tryz.results64 V (.of_eq (by rw [eight_eq])) (.str _) Vv
def wrI (S : MS) (id t : Nat) (l : Bs) (T : MV) : Nat → MS
 | 0 => S
 | _ + 1 => wr S id t l T
theorem wrI_at {S : MS} {id t : Nat} {l0 l : Bs} {T : MV} (h : WrAt S id t l0 T) : ∀ i, (i = 0 → l = l0) → WrAt (wrI S id t l T i) id t l T
 | 0, e => by rw [e rfl]; exact h
 | i + 1, _ => h.wr l
theorem wrI_wr {S : MS} {id t : Nat} {l0 l m : Bs} {T : MV} (h : WrAt S id t l0 T) : ∀ i, wr (wrI S id t l T i) id t m T = wr S id t m T
 | 0 => rfl
 | i + 1 => wr_wr h
theorem wrI_len {S : MS} {id t : Nat} {l : Bs} {T : MV} : ∀ i, (wrI S id t l T i).length = S.length
 | 0 => rfl
 | i + 1 => zP4 ..
theorem wrI_pos {S : MS} {id t : Nat} {l : Bs} {T : MV} : ∀ {i}, 0 < i → wrI S id t l T i = wr S id t l T
 | 0, h => absurd h (Nat.lt_irrefl _)
 | i + 1, _ => rfl
theorem numW_writes (T : MV) (id t : Nat) (s : List Nat) (hs0 : ∀ x ∈ s, x < 18446744073709551616) (hpos : 0 < s.length) (hsl : s.length ≤ 10) : WritesW T 123 id t [.ref id 0, .lst none 1 (s.map encU)] (s.flatMap numB) := by
 intro l S h hl
 have hlen : s.length ≤ maxLen := by simp only [maxLen]; omega
 refine zM Tryz.func123 V Tryz.ntmps123 (zA V) ?_
 refine zW0 fun _ hcl => ?_
 rw [List.append_nil] at hcl
 refine zB <| qR V <| qM V V V <| qE V V Tryz.underlying258 V ?_
 rw [zF]
 refine qM V V V <| qN <| zX ?_
 show mwp _ _ _ _ _ _ _ (([] : MS) ++ (S ++ []))
 refine zS1 (α := Nat) [(0, _), (6, _), (7, _)] (fun i => [(8, .int .i64 (i : Int))]) (fun i => (wrI S id t (l ++ (s.take i).flatMap numB) T i ++ [])) (fun i => i ≤ s.length) (fun i => s.length - i) (0) (.keep V (.keep V (.keep V (.nil)))) (.keep V (.nil)) (by omega) (by simp [wrI_len, wrI]) ?_
 rintro i hi
 show mwp _ _ _ _ _ _ _ (wrI S id t (l ++ (s.take i).flatMap numB) T i ++ [])
 have hw := wrI_at (l := l ++ (s.take i).flatMap numB) h i (fun e => by subst e; simp)
 have hfl := nums_len hs0 i
 refine zB <| qR V <| qC V V V V V <| qN <| zB ?_
 refine zJ V (fun h9 => ?_) (fun h9 => ?_)
 ·
  have hlt : i < s.length := by simpa using h9
  obtain ⟨x, hs⟩ : ∃ q_, s[i]? = some q_ := ⟨_, zC hlt⟩
  refine zQ <| zB <| zX <| zB <| qR V <| qO V <| zK V Tryz.underlying258 sz22 (by decide) V V V (zE1 hs) ?_
  refine qO V <| zO V V ta22 V <| qA V V V <| qN ?_
  have hx := hs0 x (zW hs)
  have hxl := zP2 9 x (by omega)
  refine zX0 [5] [_, wrI S id t (l ++ (s.take (i + 1)).flatMap numB) T (i + 1) ++ []] mo (by decide) V V V V ?_
  refine zU V V (.cons (zY V V Vv) (.cons (zY V V Vv) (.nil))) <| zU V V (.cons (zD0 V V V Vv) (.cons (zD0 V V V Vv) (.nil))) <| dO V V V (zE V V fo121_0 Vv) <| zU V V (.cons (zY V V Vv) (.cons (zY V V Vv) (.nil))) <| zU V V (.cons (zD1 V V V co170 (codeNum_spec x hx (by omega) _)) .nil) ?_
  refine zB1 V V V V (zD1 V V V co125 (((writeW_at hw (numB x) (by simp only [zG]; omega) []).mono fun v σ' hv => ⟨hv.1, hv.2.trans (by rw [wrI_wr h, zN, ← nums_take hs]; rfl)⟩))) ?_
  refine zP0 <| qR V <| qO V <| zT0 V V V V <| qM V V V <| qN ?_
  refine ⟨i + 1, by omega, by omega, rfl, (.keep V (.keep V (.keep V (.nil)))), (.eq V (zQ1 hlt hlen) (.nil))⟩
 ·
  have hge : i = s.length := by simp at h9; omega
  refine zM1 ?_
  rw [hge, List.take_length, wrI_pos hpos]
  exact zB2 (by simp) Tryz.results123 (by rw [zP4]; exact Nat.le_refl _) (cls_wr hcl h.idl h.tl (h.T hcl)) Vv
def headB (k f to i c : Nat) : Bs := [k, f, to, i, c].flatMap numB
def plB (pk : Bool) (k f to i c : Nat) (key : Bs) : Bs := headB k f to i c ++ (if pk then textB key else [])
def plL (pk : Bool) (k f to i c : Nat) (key : Bs) : Bs := leB 8 (hashB (plB pk k f to i c key)) ++ plB pk k f to i c key
theorem headB_len {k f to i c : Nat} (h : ∀ x ∈ [k, f, to, i, c], x < 18446744073709551616) : (headB k f to i c).length ≤ 50 := nums_len h 5
theorem textB_len {s : Bs} (h : s.length ≤ 1000) : (textB s).length ≤ 1003 := by
 have := (numB_len (show s.length < 2097152 by omega)).2
 simp only [textB, zG]
 omega
theorem plB_len {pk : Bool} {k f to i c : Nat} {key : Bs} (h : ∀ x ∈ [k, f, to, i, c], x < 18446744073709551616) (hk : key.length ≤ 1000) : (plB pk k f to i c key).length ≤ 1053 := by
 have h1 := headB_len h
 have h2 := textB_len hk
 unfold plB
 rw [zG]
 cases pk
 ·simp; omega
 ·simp; omega
theorem numB_ne (n : Nat) : numB n ≠ [] := by
 intro h
 by_cases e : n < 128
 ·rw [numB_last e] at h; cases h
 ·rw [numB_more (by omega)] at h; cases h
theorem plB_ne {pk : Bool} {k f to i c : Nat} {key : Bs} : plB pk k f to i c key ≠ [] := by
 unfold plB headB
 intro h
 rw [List.flatMap_cons, zN, List.append_eq_nil_iff] at h
 exact numB_ne _ h.1
theorem letW_writes (T : MV) (id t : Nat) (k f to i c : Nat) (key : Bs) (x : Val) (es : List Ety) (su : List Su) (mm : List Mm) (cp : List Cp) (hs : ∀ x ∈ [k, f, to, i, c], x < 18446744073709551616) (pk : Bool) (hP : ofP (k : Int) c = (pk, false, false, false, false)) (hkl : key.length ≤ 1000) : WritesW T 63 id t [.ref id 0, encLt (k : Int) f to i c key x es su mm cp] (plB pk k f to i c key) := by
 intro l S h hl
 obtain ⟨n, m, s, q, w⟩ := x
 have hof := of_spec (k : Int) f to i c key (.mk n m s q w) es su mm cp
 rw [hP] at hof
 have h1 := headB_len hs
 have h2 := textB_len hkl
 have b1 := hs k (by simp)
 have b2 := hs f (by simp)
 have b3 := hs to (by simp)
 have b5 := hs c (by simp)
 have hl4 : (headB k f to i c).length ≤ (plB pk k f to i c key).length := by
  unfold plB
  rw [zG]
  omega
 cases pk with
 | true =>
   refine zM Tryz.func63 V Tryz.ntmps63 (zA V) ?_
   refine zW0 fun _ hcl => ?_
   rw [List.append_nil] at hcl
   refine zB <| qR V <| qB V V V V V <| qN <| zB <| qR V <| qO V <| zL0 (by simp [zP4]) V V V ta35 V ?_
   refine qX V V V V co54 (hof _) ?_
   refine qO V <| zN0 V zm104 V V <| qO V <| zO6 (by simp [zP4]) V V V V sz104 V V (zA V) V ?_
   refine qN <| zB <| qR V <| qM V V V <| qF V V V zJ6 <| qO V <| zL0 (by simp [zP4]) V V V ta3 V ?_
   refine qO V <| zX1 V zH1 zZ0 V (zX2 (by omega)) ?_
   refine qF V V V fo35_1 <| qO V <| zL0 (by simp [zP4]) V V V ta3 V ?_
   refine qO V <| zX1 V zH1 zZ0 V (zX2 (by omega)) ?_
   refine qF V V V fo35_2 <| qO V <| zL0 (by simp [zP4]) V V V ta3 V ?_
   refine qO V <| zX1 V zH1 zZ0 V (zX2 (by omega)) ?_
   refine qF V V V zY6 <| qO V <| zL0 (by simp [zP4]) V V V ta22 V ?_
   refine qF V V V fo35_4 <| qO V <| zL0 (by simp [zP4]) V V V ta3 V ?_
   refine qO V <| zX1 V zH1 zZ0 V (zX2 (by omega)) ?_
   refine qO V <| zJ1 V Tryz.underlying258 el22 V V (by decide) (by decide) V V ?_
   refine qX V V V V co123 ((numW_writes T id t [k, f, to, i, c] hs (by simp) (by simp)).sl h (by have := hl4; unfold headB at this; omega) _) ?_
   refine qN <| zX <| zB <| qR V <| qF V V V fo104_1 <| qO V <| zL0 (by simp [zP4]) V V V ta4 V ?_
   refine qA V V V <| qN <| zL V (V) <| zB <| qR V <| qF V V V fo104_0 <| qO V <| zL0 (by simp [zP4]) V V V ta4 V ?_
   refine qA V V V <| qN <| zT V (V) ?_
   have hw := h.wr (l ++ headB k f to i c)
   refine zX0 [6] [_, wr S id t (l ++ headB k f to i c ++ textB key) T ++ [.cells (encLt (k : Int) f to i c key (.mk n m s q w) es su mm cp).cells, .cells (encPt (true, false, false, false, false)).cells]] mo (by decide) V V V V ?_
   refine zU V V (.cons (zY V V Vv) (.cons (zY V V Vv) (.nil))) <| zU V V (.cons (zD0 V V V Vv) (.cons (zD0 V V V Vv) (.nil))) <| dO V V V (zE V V fo121_0 Vv) <| zU V V (.cons (zE V V fo35_5 Vv) (.cons (zE V V fo35_5 Vv) (.nil))) <| zU V V (.cons (zL0 (by simp [zP4]) V V V ta9 V Vv) (.cons (zL0 (by simp [zP4]) V V V ta9 V Vv) (.nil))) ?_
   refine zU V V (.cons (zD1 V V V co126 (codeText_spec key (by omega) _)) .nil) ?_
   refine zB1 V V V V (zD1 V V V co125 (((writeW_at hw (textB key) (by rw [zG]; omega) _).mono fun v σ' hv => ⟨hv.1, hv.2.trans (by rw [wr_wr h]; rfl)⟩))) ?_
   refine zP0 ?_
   exact zB2 (by simp) Tryz.results63 (by rw [zP4]; exact Nat.le_refl _) (cls_wr hcl h.idl h.tl (h.T hcl)) ⟨rfl, by unfold plB; rw [if_pos rfl, ← zN]⟩
 | false =>
   refine zM Tryz.func63 V Tryz.ntmps63 (zA V) ?_
   refine zW0 fun _ hcl => ?_
   rw [List.append_nil] at hcl
   refine zB <| qR V <| qB V V V V V <| qN <| zB <| qR V <| qO V <| zL0 (by simp [zP4]) V V V ta35 V ?_
   refine qX V V V V co54 (hof _) ?_
   refine qO V <| zN0 V zm104 V V <| qO V <| zO6 (by simp [zP4]) V V V V sz104 V V (zA V) V ?_
   refine qN <| zB <| qR V <| qM V V V <| qF V V V zJ6 <| qO V <| zL0 (by simp [zP4]) V V V ta3 V ?_
   refine qO V <| zX1 V zH1 zZ0 V (zX2 (by omega)) ?_
   refine qF V V V fo35_1 <| qO V <| zL0 (by simp [zP4]) V V V ta3 V ?_
   refine qO V <| zX1 V zH1 zZ0 V (zX2 (by omega)) ?_
   refine qF V V V fo35_2 <| qO V <| zL0 (by simp [zP4]) V V V ta3 V ?_
   refine qO V <| zX1 V zH1 zZ0 V (zX2 (by omega)) ?_
   refine qF V V V zY6 <| qO V <| zL0 (by simp [zP4]) V V V ta22 V ?_
   refine qF V V V fo35_4 <| qO V <| zL0 (by simp [zP4]) V V V ta3 V ?_
   refine qO V <| zX1 V zH1 zZ0 V (zX2 (by omega)) ?_
   refine qO V <| zJ1 V Tryz.underlying258 el22 V V (by decide) (by decide) V V ?_
   refine qX V V V V co123 ((numW_writes T id t [k, f, to, i, c] hs (by simp) (by simp)).sl h (by have := hl4; unfold headB at this; omega) _) ?_
   refine qN <| zX <| zB <| qR V <| qF V V V fo104_1 <| qO V <| zL0 (by simp [zP4]) V V V ta4 V ?_
   refine qA V V V <| qN <| zL V (V) <| zB <| qR V <| qF V V V fo104_0 <| qO V <| zL0 (by simp [zP4]) V V V ta4 V ?_
   refine qA V V V <| qN <| zL V (V) <| zB <| qR V <| qF V V V fo104_2 <| qO V <| zL0 (by simp [zP4]) V V V ta4 V ?_
   refine qA V V V <| qN <| zL V (V) <| zB <| qR V <| qF V V V zS6 <| qO V <| zL0 (by simp [zP4]) V V V ta4 V ?_
   refine qA V V V <| qN <| zL V (V) <| zB <| qR V <| qF V V V zR4 <| qO V <| zL0 (by simp [zP4]) V V V ta4 V ?_
   refine qA V V V <| qN <| zL V (V) <| zQ ?_
   exact zB2 (by simp) Tryz.results63 (by rw [zP4]; exact Nat.le_refl _) (cls_wr hcl h.idl h.tl (h.T hcl)) ⟨rfl, by unfold plB; rw [if_neg (by decide), List.append_nil]; rfl⟩
theorem bytesY_spec (t : List Tbl) (k f to i c : Nat) (key : Bs) (x : Val) (es : List Ety) (su : List Su) (mm : List Mm) (cp : List Cp) (B : Bs) (hB : B ≠ []) (hBl : B.length ≤ 1000000) (hIs : ∀ S : MS, MCalls Tryz.prog 13 [.lst none 4 (t.map encTb), encLt (k : Int) f to i c key x es su mm cp] S fun v σ' => v = .bool true ∧ σ' = S) (hW : ∀ id tt, WritesW (.lst none 4 (t.map encTb)) 63 id tt [.ref id 0, encLt (k : Int) f to i c key x es su mm cp] B) (S : MS) : MCalls Tryz.prog 15 [.lst none 4 (t.map encTb), encLt (k : Int) f to i c key x es su mm cp] S fun v σ' => v = .str (bs (leB 8 (hashB B) ++ B)) ∧ σ' = S := by
 obtain ⟨n, m, s, q, w⟩ := x
 have hW := hW (S.length + 1) (S.length + 2)
 have hlb := leB_len 8 (hashB B)
 refine zM Tryz.func15 V Tryz.ntmps15 (zA V) ?_
 refine zW0 fun _ hcl => ?_
 rw [List.append_nil] at hcl
 refine zB <| qR V <| qB V V V V V <| qA V V V <| qN <| zB <| zB <| qR V <| qM V V V <| qL V V V V ta35 V ?_
 refine qX V V V V co13 (hIs _) ?_
 refine qO V <| zC1 V V <| qN <| zL V (V) <| zQ <| zB <| qR V <| qM V V V <| qO V <| zA1 V Tryz.underlying121 zm121 (.cons fo121_1 sz39 V V (zA V) .nil) (by kernel_rfl) ?_
 refine qO V <| op_boxT' (k := 1) V V V V <| qA V V V <| qN <| zB <| mwp_cellrowT 1 1 5 1 V V (Nat.le_refl _) V V ?_
 show mwp _ _ _ _ _ _ _ (S ++ [MObj.cells (encLt (k : Int) f to i c key (.mk n m s q w) es su mm cp).cells, MObj.tcells 121 [.ptr0, .lst (some (S.length + 2)) 1 [], .lst none 4 (t.map encTb)], MObj.row 5 1 0])
 have hpa : WrAt (S ++ [MObj.cells (encLt (k : Int) f to i c key (.mk n m s q w) es su mm cp).cells, MObj.tcells 121 [.ptr0, .lst (some (S.length + 2)) 1 [], .lst none 4 (t.map encTb)], MObj.row 5 1 0]) (S.length + 1) (S.length + 2) [] (.lst none 4 (t.map encTb)) := ⟨by omega, ⟨_, .inl rfl, by rw [getElem?_own]; rfl⟩, by rw [getElem?_own]; rfl⟩
 have hpb := hpa.wr B
 have hrw := hpb.row
 have hob : (wr (S ++ [MObj.cells (encLt (k : Int) f to i c key (.mk n m s q w) es su mm cp).cells, MObj.tcells 121 [.ptr0, .lst (some (S.length + 2)) 1 [], .lst none 4 (t.map encTb)], MObj.row 5 1 0]) (S.length + 1) (S.length + 2) B (.lst none 4 (t.map encTb)))[S.length + 1]? = some (.tcells 121 [.ref (S.length + 1) 0, .lst (some (S.length + 2)) 1 (B.map encY), .lst none 4 (t.map encTb)]) := by
  unfold wr wrO
  exact get_neO (by omega) (by rw [List.getElem?_set_self (by simp)])
 have hob2 : ((wr (S ++ [MObj.cells (encLt (k : Int) f to i c key (.mk n m s q w) es su mm cp).cells, MObj.tcells 121 [.ptr0, .lst (some (S.length + 2)) 1 [], .lst none 4 (t.map encTb)], MObj.row 5 1 0]) (S.length + 1) (S.length + 2) B (.lst none 4 (t.map encTb))).set (S.length + 2) (.shut 5 B))[S.length + 1]? = some (.tcells 121 [.ref (S.length + 1) 0, .lst (some (S.length + 2)) 1 (B.map encY), .lst none 4 (t.map encTb)]) := get_neO (by omega) hob
 have hrw2 : ((wr (S ++ [MObj.cells (encLt (k : Int) f to i c key (.mk n m s q w) es su mm cp).cells, MObj.tcells 121 [.ptr0, .lst (some (S.length + 2)) 1 [], .lst none 4 (t.map encTb)], MObj.row 5 1 0]) (S.length + 1) (S.length + 2) B (.lst none 4 (t.map encTb))).set (S.length + 2) (.shut 5 B))[S.length + 2]? = some (.shut 5 B) := zO4 hrw
 have hE : (wr (S ++ [MObj.cells (encLt (k : Int) f to i c key (.mk n m s q w) es su mm cp).cells, MObj.tcells 121 [.ptr0, .lst (some (S.length + 2)) 1 [], .lst none 4 (t.map encTb)], MObj.row 5 1 0]) (S.length + 1) (S.length + 2) B (.lst none 4 (t.map encTb))).set (S.length + 2) (.shut 5 B) = S ++ [.cells (encLt (k : Int) f to i c key (.mk n m s q w) es su mm cp).cells, wrO (S.length + 1) (S.length + 2) B (.lst none 4 (t.map encTb)), .shut 5 B] := by
  unfold wr
  rw [List.set_set, zP5, zP5]
  rfl
 refine qR V <| qM V V V <| qL V V V V ta35 V ?_
 refine qX V V V V co63 (hW [] (S ++ [MObj.cells (encLt (k : Int) f to i c key (.mk n m s q w) es su mm cp).cells, MObj.tcells 121 [.ptr0, .lst (some (S.length + 2)) 1 [], .lst none 4 (t.map encTb)], MObj.row 5 1 0]) hpa (by simp only [List.length_nil]; omega)) ?_
 refine qN <| zB ?_
 refine zX0 [3, 4, 5, 9] [_, (wr (S ++ [MObj.cells (encLt (k : Int) f to i c key (.mk n m s q w) es su mm cp).cells, MObj.tcells 121 [.ptr0, .lst (some (S.length + 2)) 1 [], .lst none 4 (t.map encTb)], MObj.row 5 1 0]) (S.length + 1) (S.length + 2) B (.lst none 4 (t.map encTb))).set (S.length + 2) (.shut 5 B), (wr (S ++ [MObj.cells (encLt (k : Int) f to i c key (.mk n m s q w) es su mm cp).cells, MObj.tcells 121 [.ptr0, .lst (some (S.length + 2)) 1 [], .lst none 4 (t.map encTb)], MObj.row 5 1 0]) (S.length + 1) (S.length + 2) B (.lst none 4 (t.map encTb))).set (S.length + 2) (.shut 5 B), (wr (S ++ [MObj.cells (encLt (k : Int) f to i c key (.mk n m s q w) es su mm cp).cells, MObj.tcells 121 [.ptr0, .lst (some (S.length + 2)) 1 [], .lst none 4 (t.map encTb)], MObj.row 5 1 0]) (S.length + 1) (S.length + 2) B (.lst none 4 (t.map encTb))).set (S.length + 2) (.shut 5 B), S ++ [.cells (encLt (k : Int) f to i c key (.mk n m s q w) es su mm cp).cells, wrO (S.length + 1) (S.length + 2) B (.lst none 4 (t.map encTb)), .shut 5 B]] mo (by decide) V V V V ?_
 refine zU V V (.cons (zY V V Vv) (.cons (zY V V Vv) (.cons (zY V V Vv) (.cons (zY V V Vv) (.cons (zY V V Vv) (.nil)))))) <| zU V V (.cons (zD0 V V V Vv) (.cons (zD0 V V V Vv) (.cons (zD0 V V V Vv) (.cons (zD0 V V V Vv) (.cons (zD0 V V V Vv) (.nil)))))) <| dO V V V (zE V V fo121_0 Vv) ?_
 refine zB1 V V V V (zD1 V V V co66 ((stringW_spec (S.length + 1) (S.length + 2) B _ hB (by omega) _ hob hrw (by omega)).mono fun v σ' hv => ⟨hv.1, hv.2⟩)) ?_
 refine zB1 V V V V (zD1 V V V co65 (codeHash_spec B (by omega) _)) ?_
 refine zB1 V V V V (zD1 V V V co64 (long_spec (hashB B) _)) <| zU V V (.cons (zY V V Vv) (.cons (zY V V Vv) (.cons (zY V V Vv) (.cons (zY V V Vv) (.cons (zY V V Vv) (.nil)))))) <| zU V V (.cons (zD0 V V V Vv) (.cons (zD0 V V V Vv) (.cons (zD0 V V V Vv) (.cons (zD0 V V V Vv) (.cons (zD0 V V V Vv) (.nil)))))) <| zU V V (.cons (zE V V fo121_0 Vv) (.cons (zE V V fo121_0 Vv) (.cons (zE V V fo121_0 Vv) (.cons (zE V V fo121_0 Vv) (.nil))))) ?_
 refine zB1 V V V V (zD1 V V V co66 ((stringW2_spec (S.length + 1) (S.length + 2) B _ hB _ hob2 hrw2 (by omega)).mono fun v σ' hv => ⟨hv.1, hv.2.trans hE⟩)) ?_
 refine dO V V V (op_strcat V V V (by omega) Vv) ?_
 refine dO V V V (zF1 V V Vv) <| zP0 <| zI ?_
 exact zR (.inr V) Tryz.results15 V (.refl _) (.str _) Vv
theorem bytesN_spec (t : List Tbl) (k f to i c : Nat) (key : Bs) (x : Val) (es : List Ety) (su : List Su) (mm : List Mm) (cp : List Cp) (hIs : ∀ S : MS, MCalls Tryz.prog 13 [.lst none 4 (t.map encTb), encLt (k : Int) f to i c key x es su mm cp] S fun v σ' => v = .bool false ∧ σ' = S) (S : MS) : MCalls Tryz.prog 15 [.lst none 4 (t.map encTb), encLt (k : Int) f to i c key x es su mm cp] S fun v σ' => v = .str (bs []) ∧ σ' = S := by
 obtain ⟨n, m, s, q, w⟩ := x
 refine zM Tryz.func15 V Tryz.ntmps15 (zA V) ?_
 refine zW0 fun _ hcl => ?_
 rw [List.append_nil] at hcl
 refine zB <| qR V <| qB V V V V V <| qA V V V <| qN <| zB <| zB <| qR V <| qM V V V <| qL V V V V ta35 V ?_
 refine qX V V V V co13 (hIs _) ?_
 refine qO V <| zC1 V V <| qN <| zT V (V) <| zB <| qR V <| qA V V V <| qN <| zI ?_
 exact zR (.inr V) Tryz.results15 V (.refl _) (.str _) Vv
def lo (T : MV) (b : Bs) (x : Bool) : MObj := .cells [T, .str (bs b), .bool x]
theorem lo_cl {n : Nat} {T : MV} (h : Cl n T) (b : Bs) (x : Bool) : (lo T b x).cl n := fun y hy => by
 simp only [List.mem_cons, List.not_mem_nil, or_false] at hy
 rcases hy with rfl | rfl | rfl
 ·exact h
 ·exact .str _
 ·exact .bool _
theorem lbytes_ok (t : List Tbl) (id : Nat) (b : Bs) (n : Nat) (hn : n ≤ b.length) (hlen : b.length ≤ 8000000) (S : MS) (h : S[id]? = some (lo (.lst none 4 (t.map encTb)) (b) false)) : MCalls Tryz.prog 172 [.ref id 0, .int .u64 (n : Int)] S fun v σ' => v = .str (bs (b.take n)) ∧ σ' = S.set id (lo (.lst none 4 (t.map encTb)) (b.drop n) false) := by
 refine zM Tryz.func172 V Tryz.ntmps172 (zA V) ?_
 refine zW0 fun _ hcl => ?_
 rw [List.append_nil] at hcl
 refine zB <| qR V <| qA V V V <| qN <| zB <| zB <| qR V <| qM V V V <| qO V <| zD0 V V V <| qF V V V fo127_2 <| qO V <| zP1 V V h ta4 V <| qM V V V <| qM V V V <| qM V V V <| qO V <| zD0 V V V <| qF V V V fo127_1 <| qO V <| zP1 V V h ta9 V <| qO V <| zU3 V zV0 V ?_
 refine qO V <| zX1 V zH1 zZ0 V (zX2 (by omega)) ?_
 refine qC V V V V (show intCmp .gtr (n : Int) ((b.length : Nat) : Int) = some false by simp [intCmp]; omega) ?_
 refine qP V V V V <| qN <| zL V (V) <| zQ <| zB <| qR V <| qM V V V <| qO V <| zD0 V V V <| qF V V V fo127_1 <| qO V <| zP1 V V h ta9 V <| qM V V V <| qO V <| zK5 V zV0 V .none (.some V V) (by omega) (by omega) ?_
 rw [List.drop_zero, Nat.sub_zero]
 refine qA V V V <| qN <| zB <| qR V <| qM V V V <| qM V V V <| qO V <| zD0 V V V <| qF V V V fo127_1 <| qO V <| zP1 V V h ta9 V <| qM V V V <| qO V <| zK5 V zV0 V (.some V V) .none (by omega) (by omega) ?_
 rw [List.take_of_length_le (by simp : (b.drop n).length ≤ b.length - n)]
 refine qO V <| zD0 V V V <| qF V V V fo127_1 <| qO V <| zK6 V V V h sz9 V V (zA V) <| qN <| zB <| qR V <| qM V V V <| qA V V V <| qN <| zI ?_
 exact zG4 (.inr V) Tryz.results172 V (.refl _) (.str _) (by simp) (hcl.set (lo_cl (cl_tbs _ _) (b.drop n) false)) Vv
theorem lnum_ok (t : List Tbl) (id : Nat) (b rest : Bs) (vn : Nat) (he0 : numScan 0 0 b = .ok (vn, rest)) (hlen : b.length ≤ 8000000) (S : MS) (h : S[id]? = some (lo (.lst none 4 (t.map encTb)) (b) false)) : MCalls Tryz.prog 128 [.ref id 0] S fun v σ' => v = .int .u64 (vn : Int) ∧ σ' = S.set id (lo (.lst none 4 (t.map encTb)) (rest) false) := by
 refine zM Tryz.func128 V Tryz.ntmps128 (zA V) ?_
 refine zW0 fun _ hcl => ?_
 rw [List.append_nil] at hcl
 refine zB <| qR V <| qA V V V <| qN <| zB <| qR V <| qA V V V <| qN <| zB <| zB <| qR V <| qA V V V <| qN <| zX ?_
 show mwp _ _ _ _ _ _ _ (([] : MS) ++ (S ++ []))
 refine zS1 (α := Nat × Nat) [(0, _)] (fun x => [(3, .int .u64 (x.1 : Int)), (4, .int .i64 ((7 * x.2 : Nat) : Int))]) (fun x => (S.set id (lo (.lst none 4 (t.map encTb)) (b.drop x.2) false) ++ [])) (fun x => x.2 ≤ b.length ∧ x.1 < 2 ^ (7 * x.2) ∧ numScan x.1 x.2 (b.drop x.2) = .ok (vn, rest)) (fun x => b.length - x.2) (⟨0, 0⟩) (.keep V (.nil)) (.keep V (.keep V (.nil))) (⟨by simp, by simp, by simpa using he0⟩) (by simp; exact (set_self_rd h).symm) ?_
 rintro ⟨n, i⟩ ⟨hi, hnp, he⟩
 dsimp only at hi hnp he ⊢
 show mwp _ _ _ _ _ _ _ (S.set id (lo (.lst none 4 (t.map encTb)) (b.drop i) false) ++ [])
 have hlt : i < b.length := by
  rcases Nat.lt_or_ge i b.length with q | q
  ·exact q
  ·rw [List.drop_eq_nil_of_le q] at he; cases he
 obtain ⟨c, hs⟩ : ∃ q_, b[i]? = some q_ := ⟨_, zC hlt⟩
 have hcl0 := c.toNat_lt
 rw [drop_at hs] at he
 have hcc : ¬ (64 ≤ 7 * i ∨ 18446744073709551616 ≤ (c.toNat % 128) * 2 ^ (7 * i) ∨ (0 < i ∧ c = 0)) := fun hq => by rw [numScan, if_pos hq] at he; cases he
 have h64 : 7 * i < 64 := by omega
 have hsm : (c.toNat % 128) * 2 ^ (7 * i) < 18446744073709551616 := by omega
 have hfit := fit_or (m := c.toNat % 128) hnp (by omega) h64 hsm
 have hg : (S.set id (lo (.lst none 4 (t.map encTb)) (b.drop i) false))[id]? = some (lo (.lst none 4 (t.map encTb)) (b.drop i) false) := zO4 h
 have hd1 : (b.drop i).take 1 = [c] := by rw [drop_at hs]; rfl
 have hd2 : (b.drop i).drop 1 = b.drop (i + 1) := by rw [List.drop_drop]
 have hby : MCalls Tryz.prog 172 [.ref id 0, .int .u64 1] (S.set id (lo (.lst none 4 (t.map encTb)) (b.drop i) false) ++ []) fun v σ' => v = .str (bs [c]) ∧ σ' = S.set id (lo (.lst none 4 (t.map encTb)) (b.drop (i + 1)) false) ++ [] := (lbytes_ok t id (b.drop i) 1 (by simp; omega) (by simp; omega) _ (zK1 hg)).mono fun v σ' hv => ⟨hv.1.trans (by rw [hd1]), hv.2.trans (by rw [hd2, zC4 hg, List.set_set])⟩
 refine zB <| zB <| qR V <| qM V V V <| qO V <| zD0 V V V <| qF V V V fo127_2 <| qO V <| zP1 V V hg ta4 V <| qO V <| zC1 V V <| qN <| zT V (V) <| zQ <| zB <| zX <| zB <| qR V <| qM V V V ?_
 refine qX V V V V co172 (hby) ?_
 refine qA V V V <| qN <| zB <| zB <| qR V <| qM V V V <| qO V <| zS2 V V V (strEq_D [c] []) <| qN <| zL V (by simp) ?_
 refine zQ <| zB <| qR V <| qM V V V <| qM V V V <| qO V <| zJ5 V zV0 V V V (V : ([c] : Bs)[0]? = some c) <| qO V <| op_rem V V V (by decide) (rem128 c.toNat) ?_
 refine qO V <| zX1 V zK3 zZ0 V (zX2 (by omega)) ?_
 refine qM V V V <| qO V <| op_shl V V V (by omega) (shl_u64 h64 hsm) ?_
 refine qO V <| op_bits V V V (or_u64 hnp hfit.1) <| qA V V V <| qN <| zB <| qR V <| qM V V V <| qO V <| zJ5 V zV0 V V V (V : ([c] : Bs)[0]? = some c) <| qC V V V V V <| qN ?_
 refine zJ V (fun h27 => ?_) (fun h27 => ?_)
 ·
  have hlast : c.toNat < 128 := by simp at h27; omega
  rw [numScan, if_neg hcc, if_pos hlast] at he
  injection he with he
  injection he with hv1 hv2
  subst hv1 hv2
  refine zB <| qR V <| qM V V V <| qA V V V <| qN <| zI ?_
  exact zG4 (.inr V) Tryz.results128 V (.refl _) (.int _ _) (by simp) (hcl.set (lo_cl (cl_tbs _ _) (b.drop (i + 1)) false)) Vv
 ·
  have hlast : ¬ c.toNat < 128 := by simp at h27; omega
  refine zQ <| qR V <| qM V V V <| qO V <| zT0 V V V V <| qA V V V <| qN ?_
  refine ⟨⟨n + c.toNat % 128 * 2 ^ (7 * i), i + 1⟩, by dsimp only; omega, ⟨by dsimp only; omega, hfit.2, by dsimp only; rw [← he, numScan, if_neg hcc, if_neg hlast]⟩, rfl, (.keep V (.nil)), (.eq V (V) (.eq V (by dsimp only; rw [show ((7 * i : Nat) : Int) + 7 = ((7 * (i + 1) : Nat) : Int) by omega, wrap_i64 (by omega)]) (.nil)))⟩
theorem lsmall_ok (t : List Tbl) (id : Nat) (b rest : Bs) (vn : Nat) (he0 : numScan 0 0 b = .ok (vn, rest)) (hv : vn ≤ 1073741824) (hlen : b.length ≤ 8000000) (S : MS) (h : S[id]? = some (lo (.lst none 4 (t.map encTb)) (b) false)) : MCalls Tryz.prog 127 [.ref id 0] S fun v σ' => v = .int .i64 (vn : Int) ∧ σ' = S.set id (lo (.lst none 4 (t.map encTb)) (rest) false) := by
 refine zM Tryz.func127 V Tryz.ntmps127 (zA V) ?_
 refine zW0 fun _ hcl => ?_
 rw [List.append_nil] at hcl
 refine zB <| qR V <| qA V V V <| qN <| zB <| qR V <| qM V V V ?_
 refine qX V V V V co128 (lnum_ok t id b rest vn he0 hlen _ (zK1 h)) ?_
 rw [zC4 h]
 refine qO V <| op_min2 V V V <| qO V <| zX1 V zZ0 zH1 V (wrap_i64 (by omega)) ?_
 refine qA V V V <| qN <| zI ?_
 exact zG4 (.inr V) Tryz.results127 V (.refl _) (.int _ _) (by simp) (hcl.set (lo_cl (cl_tbs _ _) rest false)) ⟨by rw [if_neg (by omega)], rfl⟩
theorem _root_.zC7 : type_of% @lsmall_ok := @lsmall_ok
theorem ltext_ok (t : List Tbl) (id : Nat) (b rest : Bs) (vn : Nat) (he0 : numScan 0 0 b = .ok (vn, rest)) (hv : vn ≤ rest.length) (hr : rest.length ≤ 8000000) (hlen : b.length ≤ 8000000) (S : MS) (h : S[id]? = some (lo (.lst none 4 (t.map encTb)) (b) false)) : MCalls Tryz.prog 129 [.ref id 0] S fun v σ' => v = .str (bs (rest.take vn)) ∧ σ' = S.set id (lo (.lst none 4 (t.map encTb)) (rest.drop vn) false) := by
 refine zM Tryz.func129 V Tryz.ntmps129 (zA V) ?_
 refine zW0 fun _ hcl => ?_
 rw [List.append_nil] at hcl
 have hg : (S.set id (lo (.lst none 4 (t.map encTb)) (rest) false))[id]? = some (lo (.lst none 4 (t.map encTb)) (rest) false) := zO4 h
 refine zB <| qR V <| qA V V V <| qN <| zB <| qR V <| qM V V V <| qM V V V ?_
 refine qX V V V V co128 (lnum_ok t id b rest vn he0 hlen _ (zK1 h)) ?_
 rw [zC4 h]
 refine qX V V V V co172 (lbytes_ok t id rest vn hv hr _ (zK1 hg)) ?_
 rw [zC4 hg, List.set_set]
 refine qA V V V <| qN <| zI ?_
 exact zG4 (.inr V) Tryz.results129 V (.refl _) (.str _) (by simp) (hcl.set (lo_cl (cl_tbs _ _) (rest.drop vn) false)) Vv
end Go.Proofs.YtciimaabeabkdaaGreatDoor
namespace Go.Proofs.YtciimaabeabkdaaGreatDoor
open Go Go.MV
section
structure SemiB (P : Val → Prop) (f : Val → Val → Val) (b : Val) : Prop extends SemiL P f where
 bot : P b
 neut : ∀ x, P x → f x b = x
section
variable {p : Val → Prop} {f : Val → Val → Val} {b : Val} (h : SemiB p f b)
include h
end
end
def below (cs : List (List Tk)) (c : List Tk) : Bool := cs.any fun o => decide (cmpF c o = -1)
def GoodE (E : List Ety) : Prop := ∀ k v, lookE k E = some v → ∃ t, findP tabs4 k = some t ∧ isOk t.2.2 v ∧ v ≠ bottomF t.2.2
end Go.Proofs.YtciimaabeabkdaaGreatDoor
section
namespace Go.MV
open Go Go.RowKit
theorem op_fieldAddr_orf {P : Program} {rd : Option Nat} {o : Oper} {env : Env} {σ : MS} {K : MV → MS → Prop} {t : TypeId} {x : Operand} {f id n off fo : Nat} {ft : TypeId} (ho : o.op = .fieldAddr t x f) (hx : evo env x = some (.orf id n off)) (hf : fieldOff P t f = some (fo, ft)) (h : K (.orf id n (off + fo)) σ) : OpWp P rd o env σ K := by
 refine OpWp.of_run (by simp [ho]) fun g w a hr hop => ?_
 obtain ⟨b, c, hb, e⟩ := (hop x (by simp [ho, Op.operands]) _ hx).inv_orf
 obtain ⟨fs, fd, i, h1, h2, h3, h4, h5, h6⟩ := fieldOff_some hf
 refine ⟨.pointer (some ⟨b, off + fo, none⟩), w, ?_, .same h hr (.orf _ _ _ b c hb)⟩
 simp [execOp, ho, e, Instr.fieldAt, Instr.sureAddr, run_underlying h1, h2, fieldPlace, sizeOf, typeInfo, h4, h5, h6, h3, zB4]
end Go.MV
namespace Go.Proofs.YtciimaabeabkdaaGreatDoor
open Go Go.MV
abbrev Stg := Bs × Val × Bool
def d0 : Stg := ([], noV, false)
section
variable (S L : MS) (a b c : Nat) (T : TS) (key : Bs) (h1 : a ≠ b) (h2 : a ≠ c) (h3 : b ≠ c) (ha : L[a]? = some (tbK tabs4 (S.length + c) T.keys.length (S.length + b))) (hb : L[b]? = some (.mp T.clk T.es)) (hc : L[c]? = some (rwK T.keys)) (ok : OkTS T) (gd : GoodE T.E)
include ha hb hc in
end
theorem rSame_at13 (a : Val) (S : MS) : MCalls Tryz.prog 88 [encV a, encV a] S fun v σ' => v = .bool true ∧ σ' = S := by
 have := rSame_spec a a S
 rwa [decide_eq_true rfl] at this
theorem rSameE13 (E : List Ety) (hlen : E.length ≤ 1000) (S : MS) : MCalls Tryz.prog 30 [.lst none 6 (E.map encEn), .lst none 6 (E.map encEn)] S fun v σ' => v = .bool true ∧ σ' = S := by
 refine zM Tryz.func30 V Tryz.ntmps30 (zA V) ?_
 refine zB <| qR V <| qA V V V <| qN <| zB <| zB <| qR V <| qM V V V <| qE V V zF2 V <| qM V V V <| qE V V zF2 V <| qC V V V V ((show _ = some false by simp [intCmp])) ?_
 refine qN <| zL V (V) <| zQ <| zB <| zB <| qR V <| qA V V V <| qN <| zX ?_
 refine zS1 (α := Nat) [(0, _), (1, _)] (fun i => [(5, .int .i64 (i : Int))]) (fun i => []) (fun i => i ≤ E.length) (fun i => E.length - i) (0) (.keep V (.keep V (.nil))) (.keep V (.nil)) (by omega) (V) ?_
 rintro i hi
 refine zB <| zB <| qR V <| qM V V V <| qM V V V <| qE V V zF2 V <| qC V V V V V <| qN ?_
 refine zJ V (fun h14 => ?_) (fun h14 => ?_)
 ·
  rw [zF] at h14
  have hlt : i < E.length := by simpa using h14
  obtain ⟨⟨kx, ⟨n1, m1, s1, c1, w1⟩⟩, hs⟩ : ∃ x, E[i]? = some x := ⟨_, zC hlt⟩
  refine zQ <| zB <| zX <| zB ?_
  refine zX0 [] [_] mo (by decide) V V V V ?_
  refine dO V V V (zY V V Vv) <| dO V V V (zY V V Vv) <| dO V V V (zK V zF2 sz132 (by decide) V V V (zE1 hs) Vv) ?_
  refine dO V V V (zG1 V V fo132_0 Vv) <| dO V V V (zO V V ta9 V Vv) <| dO V V V (zY V V Vv) <| dO V V V (zY V V Vv) <| dO V V V (zK V zF2 sz132 (by decide) V V V (zE1 hs) Vv) ?_
  refine dO V V V (zG1 V V fo132_0 Vv) <| dO V V V (zO V V ta9 V Vv) <| dO V V V (zS2 V V V (strNe' V) Vv) <| dO V V V (zY V V Vv) <| dO V V V (zY V V Vv) <| dO V V V (zY V V Vv) <| dO V V V (zK V zF2 sz132 (by decide) V V V (zE1 hs) Vv) ?_
  refine dO V V V (zG1 V V fo132_1 Vv) <| dO V V V (zO V V ta27 V Vv) <| dO V V V (zY V V Vv) <| dO V V V (zY V V Vv) <| dO V V V (zK V zF2 sz132 (by decide) V V V (zE1 hs) Vv) ?_
  refine dO V V V (zG1 V V fo132_1 Vv) <| dO V V V (zO V V ta27 V Vv) <| zU V V (.cons (zD1 V V V co88 (rSame_at13 (.mk n1 m1 s1 c1 w1) _)) .nil) <| dO V V V (zC1 V V Vv) <| dO V V V (zO1 V V V Vv) <| zP0 <| zL V (V) <| zQ <| qR V <| qM V V V <| qO V <| zT0 V V V V <| qA V V V <| qN ?_
  refine ⟨i + 1, by omega, by omega, rfl, (.keep V (.keep V (.nil))), (.eq V (zQ1 hlt (by simp only [maxLen]; omega)) (.nil))⟩
 ·
  refine zM1 <| zB <| qR V <| qA V V V <| qN <| zI ?_
  exact zR (.inr V) Tryz.results30 V (.of_eq (V)) (.bool _) Vv
end Go.Proofs.YtciimaabeabkdaaGreatDoor
end
section
namespace Go.MV
open Go Go.RowKit
def cnt5 (D : Nat → Bool) : Nat := if D 9 = true then 5 else if D 7 = true then 4 else if D 5 = true then 3 else if D 3 = true then 2 else if D 1 = true then 1 else 0
def st5 (R : Nat → MS) (L : MS) (ty sz : Nat) (z v : List MV) (D : Nat → Bool) : MS := R (cnt5 D) ++ (L ++ [hol ty sz z v (D 11) (D 12)])
section
variable {P : Program} {rd : Option Nat} {o : Oper} {env : Env} {R : Nat → MS} {L : MS} {ty sz i : Nat} {z v : List MV} {D : Nat → Bool}
theorem op_st5 {X : MV} (hi : ∀ j ∈ [1, 3, 5, 7, 9, 11, 12], j ≠ i) (h : OpWp P rd o env (st5 R L ty sz z v D) fun x σ => x = X ∧ σ = st5 R L ty sz z v D) : OpWp P rd o env (st5 R L ty sz z v D) fun x σ => x = X ∧ σ = st5 R L ty sz z v (updD D i) := by
 have e : st5 R L ty sz z v (updD D i) = st5 R L ty sz z v D := by
  unfold st5 cnt5 updD
  rw [if_neg (hi 1 (by simp)), if_neg (hi 3 (by simp)), if_neg (hi 5 (by simp)), if_neg (hi 7 (by simp)), if_neg (hi 9 (by simp)), if_neg (hi 11 (by simp)), if_neg (hi 12 (by simp))]
 rw [e]
 exact h
theorem op_st5_call {X : MV} {k : Nat} (h0 : cnt5 D = k) (h1 : cnt5 (updD D i) = k + 1) (hi : 11 ≠ i) (hj : 12 ≠ i) (h : ∀ M, OpWp P rd o env (R k ++ M) fun x σ => x = X ∧ σ = R (k + 1) ++ M) : OpWp P rd o env (st5 R L ty sz z v D) fun x σ => x = X ∧ σ = st5 R L ty sz z v (updD D i) := by
 have e1 : updD D i 11 = D 11 := if_neg hi
 have e2 : updD D i 12 = D 12 := if_neg hj
 unfold st5
 rw [h0, h1, e1, e2]
 exact h _
theorem _root_.zW4 : type_of% @op_st5_call := @op_st5_call
theorem no_l2 {ops : Array Oper} {i j k : Nat} {o p : Oper} {D : Nat → Bool} (h : OkD ops i o D) (hp : ops[j]? = some p) (he : bindsOn p k = true) (hk : D k = false) : D j = false := by
 cases hd : D j with
 | false => rfl
 | true =>
  have := h.2.2 j p hp hd k he
  rw [hk] at this
  cases this
theorem cnt_upd (h : i ≠ 1 ∧ i ≠ 3 ∧ i ≠ 5 ∧ i ≠ 7 ∧ i ≠ 9) : cnt5 (updD D i) = cnt5 D := by
 unfold cnt5 updD
 rw [if_neg h.1.symm, if_neg h.2.1.symm, if_neg h.2.2.1.symm, if_neg h.2.2.2.1.symm, if_neg h.2.2.2.2.symm]
theorem get_st5 {A : MS} {x : MObj} : (A ++ (L ++ [x]))[A.length + L.length]? = some x := by rw [getElem?_own]; simp
theorem set_st5 {A : MS} {x y : MObj} : (A ++ (L ++ [x])).set (A.length + L.length) y = A ++ (L ++ [y]) := by rw [zP5]; simp
theorem op_st5_a {N : Nat} (hR : ∀ k, (R k).length = N) (ho : o.op = .alloc ty) (hz : zeroMV P ty = some z) (hsz : z.length = sz) (h1 : D 11 = false) (h2 : D 12 = false) : OpWp P rd o env (st5 R L ty sz z v D) fun x σ => x = .orf (N + L.length) 1 0 ∧ σ = st5 R L ty sz z v (updD D 11) := by
 have e1 : updD D 11 11 = true := if_pos rfl
 have e2 : updD D 11 12 = D 12 := if_neg (by decide)
 refine op_alloc_ow ho hz (by unfold st5 hol; rw [h1, ← hR (cnt5 D)]; exact get_st5) hsz ⟨rfl, ?_⟩
 unfold st5 hol
 rw [cnt_upd (by decide), e1, e2, h1, h2, ← hR (cnt5 D), set_st5]
 rfl
theorem op_st5_s {N : Nat} {x y : Operand} {m : MV} (hR : ∀ k, (R k).length = N) (ho : o.op = .store ty x y) (hx : evo env x = some (.orf (N + L.length) 1 0)) (hy : evo env y = some m) (hk : szOf P ty = some sz) (hm : m.cells = v) (hl : v.length = sz) (hzl : z.length = sz) (ha : v.all MV.one = true) (h1 : D 11 = true) (h2 : D 12 = false) : OpWp P rd o env (st5 R L ty sz z v D) fun x σ => x = .tup [] ∧ σ = st5 R L ty sz z v (updD D 12) := by
 subst hm
 have e1 : updD D 12 11 = D 11 := if_neg (by decide)
 have e2 : updD D 12 12 = true := if_pos rfl
 refine op_store_orf (l := z) (sz := sz) ho hx hy (by unfold st5 hol; rw [h1, h2, ← hR (cnt5 D)]; exact get_st5) hk hl ha (by omega) ⟨rfl, ?_⟩
 unfold st5 hol
 rw [cnt_upd (by decide), e1, e2, h1, h2, ← hR (cnt5 D), set_st5]
 rw [show setMany z 0 m.cells = m.cells by unfold setMany; simp [List.drop_eq_nil_of_le (show z.length ≤ m.cells.length by omega)]]
 rfl
end
end Go.MV
namespace Go.Proofs.YtciimaabeabkdaaGreatDoor
open Go Go.MV Go.RowKit
theorem cl_encLt (m : Nat) (k f t i c : Int) (key : Bs) (v : Val) (es : List Ety) (su : List Su) (mm : List Mm) (cp : List Cp) : Cl m (encLt k f t i c key v es su mm cp) := by
 obtain ⟨a1, a2, a3, a4, a5⟩ := v
 refine .agg _ fun x hx => ?_
 simp only [List.mem_cons, List.not_mem_nil, or_false] at hx
 rcases hx with rfl | rfl | rfl | rfl | rfl | rfl | rfl | rfl | rfl | rfl | rfl | rfl | rfl | rfl | rfl
 ·exact .int _ _
 ·exact .int _ _
 ·exact .int _ _
 ·exact .int _ _
 ·exact .int _ _
 ·exact .str _
 ·exact .int _ _
 ·exact .int _ _
 ·exact zA7 (fun e => .str _) (fun e => .inr rfl)
 ·have h := zV1 m (.mk 0 0 [] a4 a5)
  cases h with | agg _ h => exact h _ (by simp [encV])
 ·have h := zV1 m (.mk 0 0 [] a4 a5)
  cases h with | agg _ h => exact h _ (by simp [encV])
 ·exact cl_ens _ _
 ·exact cl_sus _ _
 ·exact zA7 (fun e => .agg _ fun x hx => by
   simp only [List.mem_cons, List.not_mem_nil, or_false] at hx
   rcases hx with rfl | rfl <;> exact .int _ _) (fun e => .inl rfl)
 ·exact zA7 (fun e => .agg _ fun x hx => by
   simp only [List.mem_cons, List.not_mem_nil, or_false] at hx
   rcases hx with rfl | rfl | rfl
   ·exact .str _
   ·exact .int _ _
   ·exact .int _ _) (fun e => .inl rfl)
def rdR (S : MS) (id : Nat) (T : MV) (b1 b2 b3 b4 b5 : Bs) : Nat → MS
 | 0 => S
 | 1 => S.set id (lo T b1 false)
 | 2 => S.set id (lo T b2 false)
 | 3 => S.set id (lo T b3 false)
 | 4 => S.set id (lo T b4 false)
 | _ => S.set id (lo T b5 false)
theorem rdR_len (S : MS) (id : Nat) (T : MV) (b1 b2 b3 b4 b5 : Bs) : ∀ k, (rdR S id T b1 b2 b3 b4 b5 k).length = S.length
 | 0 => rfl
 | 1 => List.length_set ..
 | 2 => List.length_set ..
 | 3 => List.length_set ..
 | 4 => List.length_set ..
 | _ + 5 => List.length_set ..
theorem scan_num {n : Nat} (h : n < 18446744073709551616) (rest : Bs) : numScan 0 0 (numB n ++ rest) = .ok (n, rest) := by
 have := scan_back n 0 0 rest (by simpa using h) (fun e => absurd e (Nat.lt_irrefl _))
 simpa using this
theorem _root_.zY5 : type_of% @scan_num := @scan_num
theorem _root_.zA5 : type_of% @Tryz.underlying35 := @Tryz.underlying35
theorem lletter_ok (t : List Tbl) (id : Nat) (k f to i c : Nat) (tl : Bs) (hk : k ≤ 1000000) (hf : f ≤ 1000000) (hto : to ≤ 1000000) (hi : i < 18446744073709551616) (hc : c ≤ 1000000) (hl : tl.length ≤ 2000) (hP : ofP (k : Int) c = (false, false, false, false, false)) (S : MS) (h : S[id]? = some (lo (.lst none 4 (t.map encTb)) (numB k ++ (numB f ++ (numB to ++ (numB i ++ (numB c ++ tl))))) false)) : MCalls Tryz.prog 67 [.ref id 0] S fun v σ' => v = encLt (k : Int) f to i c [] noV [] [] [] [] ∧ σ' = S.set id (lo (.lst none 4 (t.map encTb)) (tl) false) := by
 have hof := of_spec (k : Int) f to i c [] noV [] [] [] []
 rw [hP] at hof
 refine zM Tryz.func67 V Tryz.ntmps67 (zA V) ?_
 refine zW0 fun _ hcl => ?_
 rw [List.append_nil] at hcl
 have hRl := rdR_len S id (.lst none 4 (t.map encTb)) (numB f ++ (numB to ++ (numB i ++ (numB c ++ tl)))) (numB to ++ (numB i ++ (numB c ++ tl))) (numB i ++ (numB c ++ tl)) (numB c ++ tl) (tl)
 have hg1 : (rdR S id (.lst none 4 (t.map encTb)) (numB f ++ (numB to ++ (numB i ++ (numB c ++ tl)))) (numB to ++ (numB i ++ (numB c ++ tl))) (numB i ++ (numB c ++ tl)) (numB c ++ tl) (tl) 1)[id]? = some (lo (.lst none 4 (t.map encTb)) (numB f ++ (numB to ++ (numB i ++ (numB c ++ tl)))) false) := zO4 h
 have hg2 : (rdR S id (.lst none 4 (t.map encTb)) (numB f ++ (numB to ++ (numB i ++ (numB c ++ tl)))) (numB to ++ (numB i ++ (numB c ++ tl))) (numB i ++ (numB c ++ tl)) (numB c ++ tl) (tl) 2)[id]? = some (lo (.lst none 4 (t.map encTb)) (numB to ++ (numB i ++ (numB c ++ tl))) false) := zO4 h
 have hg3 : (rdR S id (.lst none 4 (t.map encTb)) (numB f ++ (numB to ++ (numB i ++ (numB c ++ tl)))) (numB to ++ (numB i ++ (numB c ++ tl))) (numB i ++ (numB c ++ tl)) (numB c ++ tl) (tl) 3)[id]? = some (lo (.lst none 4 (t.map encTb)) (numB i ++ (numB c ++ tl)) false) := zO4 h
 have hg4 : (rdR S id (.lst none 4 (t.map encTb)) (numB f ++ (numB to ++ (numB i ++ (numB c ++ tl)))) (numB to ++ (numB i ++ (numB c ++ tl))) (numB i ++ (numB c ++ tl)) (numB c ++ tl) (tl) 4)[id]? = some (lo (.lst none 4 (t.map encTb)) (numB c ++ tl) false) := zO4 h
 have hg5 : (rdR S id (.lst none 4 (t.map encTb)) (numB f ++ (numB to ++ (numB i ++ (numB c ++ tl)))) (numB to ++ (numB i ++ (numB c ++ tl))) (numB i ++ (numB c ++ tl)) (numB c ++ tl) (tl) 5)[id]? = some (lo (.lst none 4 (t.map encTb)) (tl) false) := zO4 h
 have hn0 := zP2 9 k (by omega)
 have hn1 := zP2 9 f (by omega)
 have hn2 := zP2 9 to (by omega)
 have hn3 := zP2 9 i (by omega)
 have hn4 := zP2 9 c (by omega)
 have hc0 : ∀ M : MS, MCalls Tryz.prog 127 [.ref id 0] (rdR S id (.lst none 4 (t.map encTb)) (numB f ++ (numB to ++ (numB i ++ (numB c ++ tl)))) (numB to ++ (numB i ++ (numB c ++ tl))) (numB i ++ (numB c ++ tl)) (numB c ++ tl) (tl) 0 ++ M) fun v σ' => v = .int .i64 (k : Int) ∧ σ' = rdR S id (.lst none 4 (t.map encTb)) (numB f ++ (numB to ++ (numB i ++ (numB c ++ tl)))) (numB to ++ (numB i ++ (numB c ++ tl))) (numB i ++ (numB c ++ tl)) (numB c ++ tl) (tl) 1 ++ M := fun M => (zC7 t id (numB k ++ (numB f ++ (numB to ++ (numB i ++ (numB c ++ tl))))) (numB f ++ (numB to ++ (numB i ++ (numB c ++ tl)))) k (zY5 (by omega) _) (by omega) (by simp only [zG]; omega) _ (zK1 h)).mono fun v σ' hv => ⟨hv.1, hv.2.trans (by rw [zC4 h]; rfl)⟩
 have hc1 : ∀ M : MS, MCalls Tryz.prog 127 [.ref id 0] (rdR S id (.lst none 4 (t.map encTb)) (numB f ++ (numB to ++ (numB i ++ (numB c ++ tl)))) (numB to ++ (numB i ++ (numB c ++ tl))) (numB i ++ (numB c ++ tl)) (numB c ++ tl) (tl) 1 ++ M) fun v σ' => v = .int .i64 (f : Int) ∧ σ' = rdR S id (.lst none 4 (t.map encTb)) (numB f ++ (numB to ++ (numB i ++ (numB c ++ tl)))) (numB to ++ (numB i ++ (numB c ++ tl))) (numB i ++ (numB c ++ tl)) (numB c ++ tl) (tl) 2 ++ M := fun M => (zC7 t id (numB f ++ (numB to ++ (numB i ++ (numB c ++ tl)))) (numB to ++ (numB i ++ (numB c ++ tl))) f (zY5 (by omega) _) (by omega) (by simp only [zG]; omega) _ (zK1 hg1)).mono fun v σ' hv => ⟨hv.1, hv.2.trans (by rw [zC4 hg1]; exact congrArg (· ++ M) (List.set_set ..))⟩
 have hc2 : ∀ M : MS, MCalls Tryz.prog 127 [.ref id 0] (rdR S id (.lst none 4 (t.map encTb)) (numB f ++ (numB to ++ (numB i ++ (numB c ++ tl)))) (numB to ++ (numB i ++ (numB c ++ tl))) (numB i ++ (numB c ++ tl)) (numB c ++ tl) (tl) 2 ++ M) fun v σ' => v = .int .i64 (to : Int) ∧ σ' = rdR S id (.lst none 4 (t.map encTb)) (numB f ++ (numB to ++ (numB i ++ (numB c ++ tl)))) (numB to ++ (numB i ++ (numB c ++ tl))) (numB i ++ (numB c ++ tl)) (numB c ++ tl) (tl) 3 ++ M := fun M => (zC7 t id (numB to ++ (numB i ++ (numB c ++ tl))) (numB i ++ (numB c ++ tl)) to (zY5 (by omega) _) (by omega) (by simp only [zG]; omega) _ (zK1 hg2)).mono fun v σ' hv => ⟨hv.1, hv.2.trans (by rw [zC4 hg2]; exact congrArg (· ++ M) (List.set_set ..))⟩
 have hc3 : ∀ M : MS, MCalls Tryz.prog 128 [.ref id 0] (rdR S id (.lst none 4 (t.map encTb)) (numB f ++ (numB to ++ (numB i ++ (numB c ++ tl)))) (numB to ++ (numB i ++ (numB c ++ tl))) (numB i ++ (numB c ++ tl)) (numB c ++ tl) (tl) 3 ++ M) fun v σ' => v = .int .u64 (i : Int) ∧ σ' = rdR S id (.lst none 4 (t.map encTb)) (numB f ++ (numB to ++ (numB i ++ (numB c ++ tl)))) (numB to ++ (numB i ++ (numB c ++ tl))) (numB i ++ (numB c ++ tl)) (numB c ++ tl) (tl) 4 ++ M := fun M => (lnum_ok t id (numB i ++ (numB c ++ tl)) (numB c ++ tl) i (zY5 (by omega) _) (by simp only [zG]; omega) _ (zK1 hg3)).mono fun v σ' hv => ⟨hv.1, hv.2.trans (by rw [zC4 hg3]; exact congrArg (· ++ M) (List.set_set ..))⟩
 have hc4 : ∀ M : MS, MCalls Tryz.prog 127 [.ref id 0] (rdR S id (.lst none 4 (t.map encTb)) (numB f ++ (numB to ++ (numB i ++ (numB c ++ tl)))) (numB to ++ (numB i ++ (numB c ++ tl))) (numB i ++ (numB c ++ tl)) (numB c ++ tl) (tl) 4 ++ M) fun v σ' => v = .int .i64 (c : Int) ∧ σ' = rdR S id (.lst none 4 (t.map encTb)) (numB f ++ (numB to ++ (numB i ++ (numB c ++ tl)))) (numB to ++ (numB i ++ (numB c ++ tl))) (numB i ++ (numB c ++ tl)) (numB c ++ tl) (tl) 5 ++ M := fun M => (zC7 t id (numB c ++ tl) (tl) c (zY5 (by omega) _) (by omega) (by simp only [zG]; omega) _ (zK1 hg4)).mono fun v σ' hv => ⟨hv.1, hv.2.trans (by rw [zC4 hg4]; exact congrArg (· ++ M) (List.set_set ..))⟩
 refine zB <| qR V <| qB V V V V V <| qO V <| zN0 V zm35 V V <| qN <| zB <| mwp_hole 35 15 ?_
 rw [zN]
 refine mwp_drawS (st5 (rdR S id (.lst none 4 (t.map encTb)) (numB f ++ (numB to ++ (numB i ++ (numB c ++ tl)))) (numB to ++ (numB i ++ (numB c ++ tl))) (numB i ++ (numB c ++ tl)) (numB c ++ tl) (tl)) [.cells [.ref id 0], .cells [.int .i64 0, .int .i64 0, .int .i64 0, .int .u64 0, .int .i64 0, .str (bs []), .int .u64 0, .int .u64 0, .lst0, .lst0, .lst0, .lst0, .lst0, .lst0, .lst0]] 35 15 [.int .i64 0, .int .i64 0, .int .i64 0, .int .u64 0, .int .i64 0, .str (bs []), .int .u64 0, .int .u64 0, .lst0, .lst0, .lst0, .lst0, .lst0, .lst0, .lst0] [.int .i64 (k : Int), .int .i64 (f : Int), .int .i64 (to : Int), .int .u64 (i : Int), .int .i64 (c : Int), .str (bs []), .int .u64 0, .int .u64 0, .lst0, .lst0, .lst0, .lst0, .lst0, .lst0, .lst0]) mo (by decide) V ?_
 refine zE3 V (fun D hD => op_st5 (by decide) (zL0 (k := 0) (hRl _) V V V ta125 V Vv)) ?_
 refine zE3 V (fun D hD => by
  have q1 : D 1 = false := hD.1
  have q3 : D 3 = false := no_l2 hD (j := 3) (k := 1) rfl (by decide) q1
  have q5 : D 5 = false := no_l2 hD (j := 5) (k := 3) rfl (by decide) q3
  have q7 : D 7 = false := no_l2 hD (j := 7) (k := 5) rfl (by decide) q5
  have q9 : D 9 = false := no_l2 hD (j := 9) (k := 7) rfl (by decide) q7
  exact zW4 (k := 0) (by simp [cnt5, q1, q3, q5, q7, q9]) (by simp [cnt5, updD, q1, q3, q5, q7, q9]) (by decide) (by decide) (fun M => zD1 rfl rfl rfl co127 (hc0 M))) ?_
 refine zE3 V (fun D hD => op_st5 (by decide) (zL0 (k := 0) (hRl _) V V V ta125 V Vv)) ?_
 refine zE3 V (fun D hD => by
  have q3 : D 3 = false := hD.1
  have q5 : D 5 = false := no_l2 hD (j := 5) (k := 3) rfl (by decide) q3
  have q7 : D 7 = false := no_l2 hD (j := 7) (k := 5) rfl (by decide) q5
  have q9 : D 9 = false := no_l2 hD (j := 9) (k := 7) rfl (by decide) q7
  have p1 : D 1 = true := hD.2.1 1 (by decide)
  exact zW4 (k := 1) (by simp [cnt5, q3, q5, q7, q9, p1]) (by simp [cnt5, updD, q3, q5, q7, q9, p1]) (by decide) (by decide) (fun M => zD1 rfl rfl rfl co127 (hc1 M))) ?_
 refine zE3 V (fun D hD => op_st5 (by decide) (zL0 (k := 0) (hRl _) V V V ta125 V Vv)) ?_
 refine zE3 V (fun D hD => by
  have q5 : D 5 = false := hD.1
  have q7 : D 7 = false := no_l2 hD (j := 7) (k := 5) rfl (by decide) q5
  have q9 : D 9 = false := no_l2 hD (j := 9) (k := 7) rfl (by decide) q7
  have p3 : D 3 = true := hD.2.1 3 (by decide)
  exact zW4 (k := 2) (by simp [cnt5, q5, q7, q9, p3]) (by simp [cnt5, updD, q5, q7, q9, p3]) (by decide) (by decide) (fun M => zD1 rfl rfl rfl co127 (hc2 M))) ?_
 refine zE3 V (fun D hD => op_st5 (by decide) (zL0 (k := 0) (hRl _) V V V ta125 V Vv)) ?_
 refine zE3 V (fun D hD => by
  have q7 : D 7 = false := hD.1
  have q9 : D 9 = false := no_l2 hD (j := 9) (k := 7) rfl (by decide) q7
  have p5 : D 5 = true := hD.2.1 5 (by decide)
  exact zW4 (k := 3) (by simp [cnt5, q7, q9, p5]) (by simp [cnt5, updD, q7, q9, p5]) (by decide) (by decide) (fun M => zD1 rfl rfl rfl co128 (hc3 M))) ?_
 refine zE3 V (fun D hD => op_st5 (by decide) (zL0 (k := 0) (hRl _) V V V ta125 V Vv)) ?_
 refine zE3 V (fun D hD => by
  have q9 : D 9 = false := hD.1
  have p7 : D 7 = true := hD.2.1 7 (by decide)
  exact zW4 (k := 4) (by simp [cnt5, q9, p7]) (by simp [cnt5, updD, q9, p7]) (by decide) (by decide) (fun M => zD1 rfl rfl rfl co127 (hc4 M))) ?_
 refine zE3 V (fun D hD => op_st5 (by decide) (zA1 V zA5 zm35 (.cons zJ6 sz3 V V (zA V) (.cons fo35_1 sz3 V V (zA V) (.cons fo35_2 sz3 V V (zA V) (.cons zY6 sz22 V V (zA V) (.cons fo35_4 sz3 V V (zA V) .nil))))) (by kernel_rfl) Vv)) ?_
 refine zE3 V (fun D hD => op_st5_a hRl V zm35 V hD.1 (no_later hD (j := 12) V (by decide))) ?_
 refine zE3 V (fun D hD => op_st5_s hRl V V V sz35 V V V V (hD.2.1 11 (by decide)) hD.1) ?_
 refine dOpsS_nil ?_
 show mwp _ _ _ _ _ _ _ (S.set id (lo (.lst none 4 (t.map encTb)) (tl) false) ++ (([.cells [.ref id 0], .cells [.int .i64 0, .int .i64 0, .int .i64 0, .int .u64 0, .int .i64 0, .str (bs []), .int .u64 0, .int .u64 0, .lst0, .lst0, .lst0, .lst0, .lst0, .lst0, .lst0]] : MS) ++ [MObj.orow 35 15 1 [.int .i64 (k : Int), .int .i64 (f : Int), .int .i64 (to : Int), .int .u64 (i : Int), .int .i64 (c : Int), .str (bs []), .int .u64 0, .int .u64 0, .lst0, .lst0, .lst0, .lst0, .lst0, .lst0, .lst0]]))
 refine zB <| qR V <| qO V <| zD6 (id := S.length + 2) V V (by rw [own_getS (by simp)]; rfl) ta35 V ?_
 refine qX V V V V co54 ((hof _).sub (.cons (.agg (.cons (.refl _) (.cons (.refl _) (.cons (.refl _) (.cons (.refl _) (.cons (.refl _) (.cons (.refl _) (.cons (.refl _) (.cons (.refl _) (.cons (.nil 1) (.cons (.nil 1) (.cons (.nil 5) (.cons (.nil 6) (.cons (.nil 2) (.cons (.nil 2) (.cons (.nil 3) (.nil))))))))))))))))) .nil)) ?_
 refine qO V <| zN0 V zm104 V V <| qO V <| zO6 (by simp) V V V V sz104 V V (zA V) V ?_
 refine qN <| zB <| zB <| qR V <| qF V V V fo104_0 <| qO V <| zL0 (by simp) V V V ta4 V ?_
 refine qN <| zL V (V) <| zQ <| zB <| zB <| qR V <| qF V V V fo104_1 <| qO V <| zL0 (by simp) V V V ta4 V ?_
 refine qN <| zL V (V) <| zQ <| zB <| zB <| qR V <| qF V V V fo104_2 <| qO V <| zL0 (by simp) V V V ta4 V ?_
 refine qN <| zL V (V) <| zQ <| zB <| zB <| qR V <| qF V V V zS6 <| qO V <| zL0 (by simp) V V V ta4 V ?_
 refine qN <| zL V (V) <| zQ <| zB <| zB <| qR V <| qF V V V zR4 <| qO V <| zL0 (by simp) V V V ta4 V ?_
 refine qN <| zL V (V) <| zQ <| zB <| qR V <| qO V <| zD6 (id := S.length + 2) V V (by rw [own_getS (by simp)]; rfl) ta35 V ?_
 refine qO V <| zO6 (by simp) V V V V sz35 V V (zA V) V ?_
 refine qN <| zI ?_
 exact ret_cellS (y := encLt (k : Int) f to i c [] noV [] [] [] []) (by simp) (.inr V) Tryz.results67 V (k := 1) V ta35 V (.agg (.cons (.refl _) (.cons (.refl _) (.cons (.refl _) (.cons (.refl _) (.cons (.refl _) (.cons (.refl _) (.cons (.refl _) (.cons (.refl _) (.cons (.nil 1) (.cons (.nil 1) (.cons (.nil 5) (.cons (.nil 6) (.cons (.nil 2) (.cons (.nil 2) (.cons (.nil 3) (.nil))))))))))))))))) (cl_encLt _ _ _ _ _ _ _ _ _ _ _ _) (hcl.set (lo_cl (cl_tbs _ _) (_) false)) Vv
theorem lletterK_ok (t : List Tbl) (id : Nat) (k f to i c : Nat) (key : Bs) (hk : k ≤ 1000000) (hf : f ≤ 1000000) (hto : to ≤ 1000000) (hi : i < 18446744073709551616) (hc : c ≤ 1000000) (hl : (numB key.length ++ key).length ≤ 2000) (hP : ofP (k : Int) c = (true, false, false, false, false)) (S : MS) (h : S[id]? = some (lo (.lst none 4 (t.map encTb)) (numB k ++ (numB f ++ (numB to ++ (numB i ++ (numB c ++ (numB key.length ++ key)))))) false)) : MCalls Tryz.prog 67 [.ref id 0] S fun v σ' => v = encLt (k : Int) f to i c key noV [] [] [] [] ∧ σ' = S.set id (lo (.lst none 4 (t.map encTb)) ([]) false) := by
 have hof := of_spec (k : Int) f to i c [] noV [] [] [] []
 rw [hP] at hof
 have hl2 : (numB key.length).length + key.length ≤ 2000 := by rw [← zG]; exact hl
 have hl1 : key.length ≤ 2000 := by omega
 have hg : (S.set id (lo (.lst none 4 (t.map encTb)) ((numB key.length ++ key)) false))[id]? = some (lo (.lst none 4 (t.map encTb)) ((numB key.length ++ key)) false) := zO4 h
 have htx : ∀ M : MS, MCalls Tryz.prog 129 [.ref id 0] (S.set id (lo (.lst none 4 (t.map encTb)) ((numB key.length ++ key)) false) ++ M) fun v σ' => v = .str (bs key) ∧ σ' = S.set id (lo (.lst none 4 (t.map encTb)) ([]) false) ++ M := fun M => (ltext_ok t id _ key key.length (zY5 (by omega) _) (Nat.le_refl _) (by omega) (by omega) _ (zK1 hg)).mono fun v σ' hv => ⟨hv.1.trans (by rw [List.take_length]), hv.2.trans (by rw [zC4 hg, List.drop_length]; exact congrArg (· ++ M) (List.set_set ..))⟩
 refine zM Tryz.func67 V Tryz.ntmps67 (zA V) ?_
 refine zW0 fun _ hcl => ?_
 rw [List.append_nil] at hcl
 have hRl := rdR_len S id (.lst none 4 (t.map encTb)) (numB f ++ (numB to ++ (numB i ++ (numB c ++ (numB key.length ++ key))))) (numB to ++ (numB i ++ (numB c ++ (numB key.length ++ key)))) (numB i ++ (numB c ++ (numB key.length ++ key))) (numB c ++ (numB key.length ++ key)) ((numB key.length ++ key))
 have hg1 : (rdR S id (.lst none 4 (t.map encTb)) (numB f ++ (numB to ++ (numB i ++ (numB c ++ (numB key.length ++ key))))) (numB to ++ (numB i ++ (numB c ++ (numB key.length ++ key)))) (numB i ++ (numB c ++ (numB key.length ++ key))) (numB c ++ (numB key.length ++ key)) ((numB key.length ++ key)) 1)[id]? = some (lo (.lst none 4 (t.map encTb)) (numB f ++ (numB to ++ (numB i ++ (numB c ++ (numB key.length ++ key))))) false) := zO4 h
 have hg2 : (rdR S id (.lst none 4 (t.map encTb)) (numB f ++ (numB to ++ (numB i ++ (numB c ++ (numB key.length ++ key))))) (numB to ++ (numB i ++ (numB c ++ (numB key.length ++ key)))) (numB i ++ (numB c ++ (numB key.length ++ key))) (numB c ++ (numB key.length ++ key)) ((numB key.length ++ key)) 2)[id]? = some (lo (.lst none 4 (t.map encTb)) (numB to ++ (numB i ++ (numB c ++ (numB key.length ++ key)))) false) := zO4 h
 have hg3 : (rdR S id (.lst none 4 (t.map encTb)) (numB f ++ (numB to ++ (numB i ++ (numB c ++ (numB key.length ++ key))))) (numB to ++ (numB i ++ (numB c ++ (numB key.length ++ key)))) (numB i ++ (numB c ++ (numB key.length ++ key))) (numB c ++ (numB key.length ++ key)) ((numB key.length ++ key)) 3)[id]? = some (lo (.lst none 4 (t.map encTb)) (numB i ++ (numB c ++ (numB key.length ++ key))) false) := zO4 h
 have hg4 : (rdR S id (.lst none 4 (t.map encTb)) (numB f ++ (numB to ++ (numB i ++ (numB c ++ (numB key.length ++ key))))) (numB to ++ (numB i ++ (numB c ++ (numB key.length ++ key)))) (numB i ++ (numB c ++ (numB key.length ++ key))) (numB c ++ (numB key.length ++ key)) ((numB key.length ++ key)) 4)[id]? = some (lo (.lst none 4 (t.map encTb)) (numB c ++ (numB key.length ++ key)) false) := zO4 h
 have hg5 : (rdR S id (.lst none 4 (t.map encTb)) (numB f ++ (numB to ++ (numB i ++ (numB c ++ (numB key.length ++ key))))) (numB to ++ (numB i ++ (numB c ++ (numB key.length ++ key)))) (numB i ++ (numB c ++ (numB key.length ++ key))) (numB c ++ (numB key.length ++ key)) ((numB key.length ++ key)) 5)[id]? = some (lo (.lst none 4 (t.map encTb)) ((numB key.length ++ key)) false) := zO4 h
 have hn0 := zP2 9 k (by omega)
 have hn1 := zP2 9 f (by omega)
 have hn2 := zP2 9 to (by omega)
 have hn3 := zP2 9 i (by omega)
 have hn4 := zP2 9 c (by omega)
 have hc0 : ∀ M : MS, MCalls Tryz.prog 127 [.ref id 0] (rdR S id (.lst none 4 (t.map encTb)) (numB f ++ (numB to ++ (numB i ++ (numB c ++ (numB key.length ++ key))))) (numB to ++ (numB i ++ (numB c ++ (numB key.length ++ key)))) (numB i ++ (numB c ++ (numB key.length ++ key))) (numB c ++ (numB key.length ++ key)) ((numB key.length ++ key)) 0 ++ M) fun v σ' => v = .int .i64 (k : Int) ∧ σ' = rdR S id (.lst none 4 (t.map encTb)) (numB f ++ (numB to ++ (numB i ++ (numB c ++ (numB key.length ++ key))))) (numB to ++ (numB i ++ (numB c ++ (numB key.length ++ key)))) (numB i ++ (numB c ++ (numB key.length ++ key))) (numB c ++ (numB key.length ++ key)) ((numB key.length ++ key)) 1 ++ M := fun M => (zC7 t id (numB k ++ (numB f ++ (numB to ++ (numB i ++ (numB c ++ (numB key.length ++ key)))))) (numB f ++ (numB to ++ (numB i ++ (numB c ++ (numB key.length ++ key))))) k (zY5 (by omega) _) (by omega) (by simp only [zG]; omega) _ (zK1 h)).mono fun v σ' hv => ⟨hv.1, hv.2.trans (by rw [zC4 h]; rfl)⟩
 have hc1 : ∀ M : MS, MCalls Tryz.prog 127 [.ref id 0] (rdR S id (.lst none 4 (t.map encTb)) (numB f ++ (numB to ++ (numB i ++ (numB c ++ (numB key.length ++ key))))) (numB to ++ (numB i ++ (numB c ++ (numB key.length ++ key)))) (numB i ++ (numB c ++ (numB key.length ++ key))) (numB c ++ (numB key.length ++ key)) ((numB key.length ++ key)) 1 ++ M) fun v σ' => v = .int .i64 (f : Int) ∧ σ' = rdR S id (.lst none 4 (t.map encTb)) (numB f ++ (numB to ++ (numB i ++ (numB c ++ (numB key.length ++ key))))) (numB to ++ (numB i ++ (numB c ++ (numB key.length ++ key)))) (numB i ++ (numB c ++ (numB key.length ++ key))) (numB c ++ (numB key.length ++ key)) ((numB key.length ++ key)) 2 ++ M := fun M => (zC7 t id (numB f ++ (numB to ++ (numB i ++ (numB c ++ (numB key.length ++ key))))) (numB to ++ (numB i ++ (numB c ++ (numB key.length ++ key)))) f (zY5 (by omega) _) (by omega) (by simp only [zG]; omega) _ (zK1 hg1)).mono fun v σ' hv => ⟨hv.1, hv.2.trans (by rw [zC4 hg1]; exact congrArg (· ++ M) (List.set_set ..))⟩
 have hc2 : ∀ M : MS, MCalls Tryz.prog 127 [.ref id 0] (rdR S id (.lst none 4 (t.map encTb)) (numB f ++ (numB to ++ (numB i ++ (numB c ++ (numB key.length ++ key))))) (numB to ++ (numB i ++ (numB c ++ (numB key.length ++ key)))) (numB i ++ (numB c ++ (numB key.length ++ key))) (numB c ++ (numB key.length ++ key)) ((numB key.length ++ key)) 2 ++ M) fun v σ' => v = .int .i64 (to : Int) ∧ σ' = rdR S id (.lst none 4 (t.map encTb)) (numB f ++ (numB to ++ (numB i ++ (numB c ++ (numB key.length ++ key))))) (numB to ++ (numB i ++ (numB c ++ (numB key.length ++ key)))) (numB i ++ (numB c ++ (numB key.length ++ key))) (numB c ++ (numB key.length ++ key)) ((numB key.length ++ key)) 3 ++ M := fun M => (zC7 t id (numB to ++ (numB i ++ (numB c ++ (numB key.length ++ key)))) (numB i ++ (numB c ++ (numB key.length ++ key))) to (zY5 (by omega) _) (by omega) (by simp only [zG]; omega) _ (zK1 hg2)).mono fun v σ' hv => ⟨hv.1, hv.2.trans (by rw [zC4 hg2]; exact congrArg (· ++ M) (List.set_set ..))⟩
 have hc3 : ∀ M : MS, MCalls Tryz.prog 128 [.ref id 0] (rdR S id (.lst none 4 (t.map encTb)) (numB f ++ (numB to ++ (numB i ++ (numB c ++ (numB key.length ++ key))))) (numB to ++ (numB i ++ (numB c ++ (numB key.length ++ key)))) (numB i ++ (numB c ++ (numB key.length ++ key))) (numB c ++ (numB key.length ++ key)) ((numB key.length ++ key)) 3 ++ M) fun v σ' => v = .int .u64 (i : Int) ∧ σ' = rdR S id (.lst none 4 (t.map encTb)) (numB f ++ (numB to ++ (numB i ++ (numB c ++ (numB key.length ++ key))))) (numB to ++ (numB i ++ (numB c ++ (numB key.length ++ key)))) (numB i ++ (numB c ++ (numB key.length ++ key))) (numB c ++ (numB key.length ++ key)) ((numB key.length ++ key)) 4 ++ M := fun M => (lnum_ok t id (numB i ++ (numB c ++ (numB key.length ++ key))) (numB c ++ (numB key.length ++ key)) i (zY5 (by omega) _) (by simp only [zG]; omega) _ (zK1 hg3)).mono fun v σ' hv => ⟨hv.1, hv.2.trans (by rw [zC4 hg3]; exact congrArg (· ++ M) (List.set_set ..))⟩
 have hc4 : ∀ M : MS, MCalls Tryz.prog 127 [.ref id 0] (rdR S id (.lst none 4 (t.map encTb)) (numB f ++ (numB to ++ (numB i ++ (numB c ++ (numB key.length ++ key))))) (numB to ++ (numB i ++ (numB c ++ (numB key.length ++ key)))) (numB i ++ (numB c ++ (numB key.length ++ key))) (numB c ++ (numB key.length ++ key)) ((numB key.length ++ key)) 4 ++ M) fun v σ' => v = .int .i64 (c : Int) ∧ σ' = rdR S id (.lst none 4 (t.map encTb)) (numB f ++ (numB to ++ (numB i ++ (numB c ++ (numB key.length ++ key))))) (numB to ++ (numB i ++ (numB c ++ (numB key.length ++ key)))) (numB i ++ (numB c ++ (numB key.length ++ key))) (numB c ++ (numB key.length ++ key)) ((numB key.length ++ key)) 5 ++ M := fun M => (zC7 t id (numB c ++ (numB key.length ++ key)) ((numB key.length ++ key)) c (zY5 (by omega) _) (by omega) (by simp only [zG]; omega) _ (zK1 hg4)).mono fun v σ' hv => ⟨hv.1, hv.2.trans (by rw [zC4 hg4]; exact congrArg (· ++ M) (List.set_set ..))⟩
 refine zB <| qR V <| qB V V V V V <| qO V <| zN0 V zm35 V V <| qN <| zB <| mwp_hole 35 15 ?_
 rw [zN]
 refine mwp_drawS (st5 (rdR S id (.lst none 4 (t.map encTb)) (numB f ++ (numB to ++ (numB i ++ (numB c ++ (numB key.length ++ key))))) (numB to ++ (numB i ++ (numB c ++ (numB key.length ++ key)))) (numB i ++ (numB c ++ (numB key.length ++ key))) (numB c ++ (numB key.length ++ key)) ((numB key.length ++ key))) [.cells [.ref id 0], .cells [.int .i64 0, .int .i64 0, .int .i64 0, .int .u64 0, .int .i64 0, .str (bs []), .int .u64 0, .int .u64 0, .lst0, .lst0, .lst0, .lst0, .lst0, .lst0, .lst0]] 35 15 [.int .i64 0, .int .i64 0, .int .i64 0, .int .u64 0, .int .i64 0, .str (bs []), .int .u64 0, .int .u64 0, .lst0, .lst0, .lst0, .lst0, .lst0, .lst0, .lst0] [.int .i64 (k : Int), .int .i64 (f : Int), .int .i64 (to : Int), .int .u64 (i : Int), .int .i64 (c : Int), .str (bs []), .int .u64 0, .int .u64 0, .lst0, .lst0, .lst0, .lst0, .lst0, .lst0, .lst0]) mo (by decide) V ?_
 refine zE3 V (fun D hD => op_st5 (by decide) (zL0 (k := 0) (hRl _) V V V ta125 V Vv)) ?_
 refine zE3 V (fun D hD => by
  have q1 : D 1 = false := hD.1
  have q3 : D 3 = false := no_l2 hD (j := 3) (k := 1) rfl (by decide) q1
  have q5 : D 5 = false := no_l2 hD (j := 5) (k := 3) rfl (by decide) q3
  have q7 : D 7 = false := no_l2 hD (j := 7) (k := 5) rfl (by decide) q5
  have q9 : D 9 = false := no_l2 hD (j := 9) (k := 7) rfl (by decide) q7
  exact zW4 (k := 0) (by simp [cnt5, q1, q3, q5, q7, q9]) (by simp [cnt5, updD, q1, q3, q5, q7, q9]) (by decide) (by decide) (fun M => zD1 rfl rfl rfl co127 (hc0 M))) ?_
 refine zE3 V (fun D hD => op_st5 (by decide) (zL0 (k := 0) (hRl _) V V V ta125 V Vv)) ?_
 refine zE3 V (fun D hD => by
  have q3 : D 3 = false := hD.1
  have q5 : D 5 = false := no_l2 hD (j := 5) (k := 3) rfl (by decide) q3
  have q7 : D 7 = false := no_l2 hD (j := 7) (k := 5) rfl (by decide) q5
  have q9 : D 9 = false := no_l2 hD (j := 9) (k := 7) rfl (by decide) q7
  have p1 : D 1 = true := hD.2.1 1 (by decide)
  exact zW4 (k := 1) (by simp [cnt5, q3, q5, q7, q9, p1]) (by simp [cnt5, updD, q3, q5, q7, q9, p1]) (by decide) (by decide) (fun M => zD1 rfl rfl rfl co127 (hc1 M))) ?_
 refine zE3 V (fun D hD => op_st5 (by decide) (zL0 (k := 0) (hRl _) V V V ta125 V Vv)) ?_
 refine zE3 V (fun D hD => by
  have q5 : D 5 = false := hD.1
  have q7 : D 7 = false := no_l2 hD (j := 7) (k := 5) rfl (by decide) q5
  have q9 : D 9 = false := no_l2 hD (j := 9) (k := 7) rfl (by decide) q7
  have p3 : D 3 = true := hD.2.1 3 (by decide)
  exact zW4 (k := 2) (by simp [cnt5, q5, q7, q9, p3]) (by simp [cnt5, updD, q5, q7, q9, p3]) (by decide) (by decide) (fun M => zD1 rfl rfl rfl co127 (hc2 M))) ?_
 refine zE3 V (fun D hD => op_st5 (by decide) (zL0 (k := 0) (hRl _) V V V ta125 V Vv)) ?_
 refine zE3 V (fun D hD => by
  have q7 : D 7 = false := hD.1
  have q9 : D 9 = false := no_l2 hD (j := 9) (k := 7) rfl (by decide) q7
  have p5 : D 5 = true := hD.2.1 5 (by decide)
  exact zW4 (k := 3) (by simp [cnt5, q7, q9, p5]) (by simp [cnt5, updD, q7, q9, p5]) (by decide) (by decide) (fun M => zD1 rfl rfl rfl co128 (hc3 M))) ?_
 refine zE3 V (fun D hD => op_st5 (by decide) (zL0 (k := 0) (hRl _) V V V ta125 V Vv)) ?_
 refine zE3 V (fun D hD => by
  have q9 : D 9 = false := hD.1
  have p7 : D 7 = true := hD.2.1 7 (by decide)
  exact zW4 (k := 4) (by simp [cnt5, q9, p7]) (by simp [cnt5, updD, q9, p7]) (by decide) (by decide) (fun M => zD1 rfl rfl rfl co127 (hc4 M))) ?_
 refine zE3 V (fun D hD => op_st5 (by decide) (zA1 V zA5 zm35 (.cons zJ6 sz3 V V (zA V) (.cons fo35_1 sz3 V V (zA V) (.cons fo35_2 sz3 V V (zA V) (.cons zY6 sz22 V V (zA V) (.cons fo35_4 sz3 V V (zA V) .nil))))) (by kernel_rfl) Vv)) ?_
 refine zE3 V (fun D hD => op_st5_a hRl V zm35 V hD.1 (no_later hD (j := 12) V (by decide))) ?_
 refine zE3 V (fun D hD => op_st5_s hRl V V V sz35 V V V V (hD.2.1 11 (by decide)) hD.1) ?_
 refine dOpsS_nil ?_
 show mwp _ _ _ _ _ _ _ (S.set id (lo (.lst none 4 (t.map encTb)) ((numB key.length ++ key)) false) ++ (([.cells [.ref id 0], .cells [.int .i64 0, .int .i64 0, .int .i64 0, .int .u64 0, .int .i64 0, .str (bs []), .int .u64 0, .int .u64 0, .lst0, .lst0, .lst0, .lst0, .lst0, .lst0, .lst0]] : MS) ++ [MObj.orow 35 15 1 [.int .i64 (k : Int), .int .i64 (f : Int), .int .i64 (to : Int), .int .u64 (i : Int), .int .i64 (c : Int), .str (bs []), .int .u64 0, .int .u64 0, .lst0, .lst0, .lst0, .lst0, .lst0, .lst0, .lst0]]))
 refine zB <| qR V <| qO V <| zD6 (id := S.length + 2) V V (by rw [own_getS (by simp)]; rfl) ta35 V ?_
 refine qX V V V V co54 ((hof _).sub (.cons (.agg (.cons (.refl _) (.cons (.refl _) (.cons (.refl _) (.cons (.refl _) (.cons (.refl _) (.cons (.refl _) (.cons (.refl _) (.cons (.refl _) (.cons (.nil 1) (.cons (.nil 1) (.cons (.nil 5) (.cons (.nil 6) (.cons (.nil 2) (.cons (.nil 2) (.cons (.nil 3) (.nil))))))))))))))))) .nil)) ?_
 refine qO V <| zN0 V zm104 V V <| qO V <| zO6 (by simp) V V V V sz104 V V (zA V) V ?_
 refine qN <| zB <| zB <| qR V <| qF V V V fo104_0 <| qO V <| zL0 (by simp) V V V ta4 V ?_
 refine qN <| zT V (V) <| qR V <| qO V <| zL0 (by simp) V V V ta125 V ?_
 refine qX V V V V co129 (htx _) ?_
 refine qO V <| op_fieldAddr_orf V V fo35_5 <| qO V <| op_store_orf (id := S.length + 2) V V V (by rw [own_getS (by simp)]; rfl) sz9 V V (zA V) ?_
 rw [own_setS (by simp)]
 refine qN <| zB <| zB <| qR V <| qF V V V fo104_1 <| qO V <| zL0 (by simp) V V V ta4 V ?_
 refine qN <| zL V (V) <| zQ <| zB <| zB <| qR V <| qF V V V fo104_2 <| qO V <| zL0 (by simp) V V V ta4 V ?_
 refine qN <| zL V (V) <| zQ <| zB <| zB <| qR V <| qF V V V zS6 <| qO V <| zL0 (by simp) V V V ta4 V ?_
 refine qN <| zL V (V) <| zQ <| zB <| zB <| qR V <| qF V V V zR4 <| qO V <| zL0 (by simp) V V V ta4 V ?_
 refine qN <| zL V (V) <| zQ <| zB <| qR V <| qO V <| zD6 (id := S.length + 2) V V (by rw [own_getS (by simp)]; rfl) ta35 V ?_
 refine qO V <| zO6 (by simp) V V V V sz35 V V (zA V) V ?_
 refine qN <| zI ?_
 exact ret_cellS (y := encLt (k : Int) f to i c key noV [] [] [] []) (by simp) (.inr V) Tryz.results67 V (k := 1) V ta35 V (.agg (.cons (.refl _) (.cons (.refl _) (.cons (.refl _) (.cons (.refl _) (.cons (.refl _) (.cons (.refl _) (.cons (.refl _) (.cons (.refl _) (.cons (.nil 1) (.cons (.nil 1) (.cons (.nil 5) (.cons (.nil 6) (.cons (.nil 2) (.cons (.nil 2) (.cons (.nil 3) (.nil))))))))))))))))) (cl_encLt _ _ _ _ _ _ _ _ _ _ _ _) (hcl.set (lo_cl (cl_tbs _ _) (_) false)) Vv
end Go.Proofs.YtciimaabeabkdaaGreatDoor
end
namespace Go.Proofs.YtciimaabeabkdaaGreatDoor
open Go Go.MV Go.RowKit
theorem ret_cellT {P : Program} {fn : Func} {S L : MS} {R : MV → MS → Prop} {env : Env} {e : Exit} {a t k off t2 : Nat} {l : List MV} {ta : Option Nat} {x y x2 : MV} (he : e = .normal ∨ e = .ret) (hres : fn.results = #[.cell a t, .tmp t2]) (ha : get env a = some (.ref (S.length + k) off)) (hl : L[k]? = some (.cells l)) (ht : tyAgg P t = some ta) (hm : loadMV ta l off = some x) (hx2 : get env t2 = some x2) (hs : Sub x y) (hc : Cl S.length y) (hc2 : Cl S.length x2) (hR : R (.tup [y, x2]) S) : BodyQ P fn S R e env (S ++ L) := by
 refine ⟨he, [x, x2], .tup [y, x2], S, L, ?_, .tup (.cons hs (.cons (.refl _) .nil)), .tup _ (fun z hz => ?_), rfl, Nat.le_refl _, .inl rfl, hR⟩
 ·rw [hres]
  exact .cell ha (by rw [getElem?_own]; exact hl) ht hm (.tmp hx2 .nil)
 ·simp only [List.mem_cons, List.not_mem_nil, or_false] at hz
  rcases hz with rfl | rfl
  ·exact hc
  ·exact hc2
theorem takeL {h b : Bs} (e : h.length = 8) : ((h ++ b).drop 0).take (8 - 0) = h := by
 rw [List.drop_zero, Nat.sub_zero, List.take_append_of_le_length (by omega), List.take_of_length_le (by omega)]
theorem dropL {h b : Bs} (e : h.length = 8) : ((h ++ b).drop 8).take ((h ++ b).length - 8) = b := by
 rw [List.drop_append_of_le_length (by omega), List.drop_eq_nil_of_le (by omega), List.nil_append, List.take_of_length_le (by rw [zG]; omega)]
theorem read_ok (t : List Tbl) (k f to i c : Nat) (key : Bs) (x : Val) (es : List Ety) (su : List Su) (mm : List Mm) (cp : List Cp) (B : Bs) (hBl : B.length ≤ 1000000) (hr : ∀ S : MS, MCalls Tryz.prog 22 [.lst none 4 (t.map encTb)] S fun v σ' => v = .bool true ∧ σ' = S) (hL : ∀ (id : Nat) (S : MS), S[id]? = some (lo (.lst none 4 (t.map encTb)) (B) false) → MCalls Tryz.prog 67 [.ref id 0] S fun v σ' => v = encLt (k : Int) f to i c key x es su mm cp ∧ σ' = S.set id (lo (.lst none 4 (t.map encTb)) ([]) false)) (hB : ∀ S : MS, MCalls Tryz.prog 15 [.lst none 4 (t.map encTb), encLt (k : Int) f to i c key x es su mm cp] S fun v σ' => v = .str (bs (leB 8 (hashB B) ++ B)) ∧ σ' = S) (S : MS) : MCalls Tryz.prog 16 [.lst none 4 (t.map encTb), .str (bs (leB 8 (hashB B) ++ B))] S fun v σ' => v = .tup [encLt (k : Int) f to i c key x es su mm cp, .iface0] ∧ σ' = S := by
 obtain ⟨n, m, s, q, w⟩ := x
 refine zM Tryz.func16 V Tryz.ntmps16 (zA V) ?_
 have hlb := leB_len 8 (hashB B)
 have hll : (leB 8 (hashB B) ++ B).length = 8 + B.length := by rw [zG, hlb]
 have hL := hL (S.length + 1)
 refine zB <| qR V <| qO V <| zN0 V zm35 V V <| qA V V V <| qN <| zB <| zX <| zB <| qR V <| qM V V V ?_
 refine qX V V V V co22 (hr _) ?_
 refine qO V <| zC1 V V <| qA V V V <| qN <| zL V (V) <| zB <| qR V <| qM V V V <| qO V <| zU3 V zV0 V <| qC V V V V (show intCmp .lss (((leB 8 (hashB B) ++ B).length : Nat) : Int) 8 = some false by simp [intCmp]; omega) ?_
 refine qA V V V <| qN <| zL V (V) <| zB ?_
 refine zX0 [] [_] mo (by decide) V V V V ?_
 refine dO V V V (zY V V Vv) <| zU V V (.cons (zZ1 (y := .str (bs B)) (zK5 V zV0 V (.some V V) .none (by first | omega | (show 8 ≤ _; omega)) (by first | omega | (show 8 ≤ _; omega)) Vv) (.of_eq (by rw [dropL hlb])) Vv) .nil) ?_
 refine zU V V (.cons (zD1 V V V co65 (codeHash_spec B (by omega) _)) .nil) ?_
 refine zU V V (.cons (zD1 V V V co64 (long_spec (hashB B) _)) .nil) <| dO V V V (zY V V Vv) <| zU V V (.cons (zZ1 (y := .str (bs (leB 8 (hashB B)))) (zK5 V zV0 V .none (.some V V) (by first | omega | (show 8 ≤ _; omega)) (by first | omega | (show 8 ≤ _; omega)) Vv) (.of_eq (by rw [takeL hlb])) Vv) .nil) ?_
 refine dO V V V (zS2 V V V V Vv) <| dO V V V (zF1 V V Vv) <| zP0 <| zL V (by simp) ?_
 refine zQ <| zB <| qR V <| qM V V V <| qM V V V <| qO V <| zZ1 (y := .str (bs B)) (zK5 V zV0 V (.some V V) .none (by first | omega | (show 8 ≤ _; omega)) (by first | omega | (show 8 ≤ _; omega)) Vv) (.of_eq (by rw [dropL hlb])) ?_
 refine qO V <| zA1 V Tryz.underlying127 zm127 (.cons fo127_0 sz39 V V (zA V) (.cons fo127_1 sz9 V V (zA V) .nil)) (by kernel_rfl) ?_
 refine qB V V V V V <| qA V V V <| qN <| zB ?_
 have hLs := hL (S ++ [.cells [.int .i64 0, .int .i64 0, .int .i64 0, .int .u64 0, .int .i64 0, .str (bs []), .int .u64 0, .int .u64 0, .lst0, .lst0, .lst0, .lst0, .lst0, .lst0, .lst0], (lo (.lst none 4 (t.map encTb)) (B) false)]) (by rw [getElem?_own]; rfl)
 refine qR V <| qM V V V ?_
 refine qX V V V V co67 (hLs) ?_
 rw [zP5]
 refine qO V <| zN0 V zm35 V V <| qO V <| zC0 V V V V sz35 V V (zA V) V <| qN <| zB <| zB <| qR V <| qM V V V <| qO V <| zD0 V V V <| qF V V V fo127_2 <| qL V V V V ta4 V <| qM V V V <| qM V V V <| qO V <| zD0 V V V <| qF V V V fo127_1 <| qL V V V V ta9 V <| qO V <| zZ1 (y := .bool false) (zS2 V V V V Vv) (.of_eq (congrArg MV.bool (by simp))) ?_
 refine qP V V V V <| qM V V V <| qM V V V <| qL V V V V ta35 V ?_
 refine qX V V V V co15 (hB _) ?_
 refine qM V V V <| qO V <| zZ1 (y := .bool false) (zS2 V V V V Vv) (.of_eq (congrArg MV.bool (by simp))) ?_
 refine qP V V V V <| qN <| zL V (V) <| zQ <| zB <| qR V <| qL V V V V ta35 V <| qO V <| zC0 V V V V sz35 V V (zA V) V <| qA V V V <| qN <| zI ?_
 exact ret_cellT (.inr V) Tryz.results16 V (k := 0) V ta35 V V (.refl _) (cl_encLt _ _ _ _ _ _ _ (.mk _ _ _ _ _) _ _ _ _) .iface0 Vv
end Go.Proofs.YtciimaabeabkdaaGreatDoor
