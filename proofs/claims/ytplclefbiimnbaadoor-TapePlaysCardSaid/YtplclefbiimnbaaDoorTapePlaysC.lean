/-
  Texts on which the proof of TapePlays leans: part 3.
-/
import Derived.Test.YtplclefbiimnbaaDoorTapePlaysB
set_option linter.unusedVariables false
set_option linter.unusedSimpArgs false
set_option maxRecDepth 20000
set_option maxHeartbeats 8000000
namespace Go.Proofs.YtplclefbiimnbaaDoor
open Go Go.MV
def okR (rs : List Bs) : Prop := ∀ r ∈ rs, r.length ≤ 500
theorem rAll_laids {rs : List Bs} (h : okR rs) : rAll (laids rs) = (rs, (laids rs).length) := by
 have := rRead_all (rs := rs) (p := []) (k := (laids rs).length + 1) (at_ := 0) (fun r hr => by have := h r hr; omega) (by have := laids_len rs; omega) (fun j o => by
  cases j with
  | zero => rfl
  | succ j => simp [rRead, rText, rNum, rNumGo])
 rw [List.append_nil, Nat.zero_add] at this
 exact this
theorem okR_app {rs : List Bs} {r : Bs} (h : okR rs) (hr : r.length ≤ 500) : okR (rs ++ [r]) := fun x hx => by
 rcases zV0.1 hx with hx | hx
 ·exact h x hx
 ·rw [List.mem_singleton.1 hx]; exact hr
theorem okR_two {r : Bs} (hr : r.length ≤ 500) : okR [r, r] := fun x hx => by
 simp only [List.mem_cons, List.not_mem_nil, or_false, or_self] at hx
 rw [hx]; exact hr
theorem okR_take {rs : List Bs} (h : okR rs) (j : Nat) : okR (rs.take j) := fun x hx => h x (List.mem_of_mem_take hx)
theorem crash_two {rs : List Bs} (h : okR rs) (x : Nat) : ∃ j, ((laids rs).take x).take (endJ (recsF ((laids rs).take x)) (recsF ((laids rs).take x)).length) = laids (rs.take j) ∧ endJ (recsF ((laids rs).take x)) (recsF ((laids rs).take x)).length = (laids (rs.take j)).length ∧
  ((laids rs).take x).take (rAll ((laids rs).take x)).2 = laids (rs.take j) ∧ (rAll ((laids rs).take x)).2 = (laids (rs.take j)).length ∧ (laids (rs.take j)).length ≤ (laids rs).length := by
 obtain ⟨k, p, h1, h2, h3, h4, _⟩ := cut_both rs x fun r hr => by have := h r hr; omega
 have hk : okR (rs.take k) := okR_take h k
 have e1 : endJ (recsF ((laids rs).take x)) (recsF ((laids rs).take x)).length = (laids (rs.take k)).length := by
  have e : recsF ((laids rs).take x) = endsF 0 (rs.take k) := by
   rw [h2]
   exact recsF_all (fun r hr => by have := hk r hr; omega) h3
  unfold endJ
  rw [List.take_length, e, ends_last]
  split
  ·rename_i hn; rw [hn]; rfl
  ·omega
 have e2 : (rAll ((laids rs).take x)).2 = (laids (rs.take k)).length := by
  unfold rAll
  rw [h2, rRead_all (fun r hr => by have := hk r hr; omega) (by have := laids_len (rs.take k); rw [zG]; omega) h4]
  simp
 refine ⟨k, ?_, e1, ?_, e2, ?_⟩
 ·rw [e1, h2]
  exact List.take_left' rfl
 ·rw [e2, h2]
  exact List.take_left' rfl
 ·have e : laids rs = laids (rs.take k) ++ laids (rs.drop k) := by rw [← zM1, List.take_append_drop]
  rw [e, zG]
  omega
abbrev Stp := Int × Int × Bs
def encP (s : Stp) : MV := .agg [.int .i64 s.1, .int .i64 s.2.1, .str (bs s.2.2)]
theorem neqI (a : Int) : intCmp .neq a a = some false := by simp [intCmp]
theorem records2 (id : Nat) (rs : List Bs) (k : Nat) (S : MS) (h : S[id]? = some (tapeO (laids rs) k)) (hr : okR rs) (hb : (laids rs).length ≤ 100000) : MCalls Tryd.prog 16 [.ref id 0] S fun v σ' => v = .lst none 1 (rs.map encS) ∧ σ' = S := by
 have := recordsL_spec id (laids rs) k S h (by omega)
 rw [recs_laids (fun r hr' => by have := hr r hr'; omega)] at this
 exact this
theorem rRecords2 (id : Nat) (rs : List Bs) (k : Nat) (S : MS) (h : S[id]? = some (tapeO (laids rs) k)) (hr : okR rs) (hb : (laids rs).length ≤ 100000) : MCalls Tryd.prog 17 [.ref id 0] S fun v σ' => v = .lst none 1 (rs.map encS) ∧ σ' = S := by
 have := rRecords_spec id (laids rs) k S h (by omega)
 rw [rAll_laids hr] at this
 exact this
theorem sameT (a : List Bs) (S : MS) : MCalls Tryd.prog 15 [.lst none 1 (a.map encS), .lst none 1 (a.map encS)] S fun v σ' => v = .bool true ∧ σ' = S := by
 have := sameTexts_spec a a S
 rw [decide_eq_true rfl] at this
 exact this
theorem TapePlays_spec (l : List Stp) (hwf : ∀ s ∈ l, IntKind.i64.wrap s.2.1 = s.2.1) : MCalls Tryd.prog 3 [.lst none 3 (l.map encP)] [fixE] fun v σ' => v = .bool true ∧ σ' = [fixE] := by
 refine zM Tryd.func3 V Tryd.ntmps3 (zB V) ?_
 refine zA <| qR V <| qA V V V <| qN <| zA <| zA <| qR V ?_
 refine qX V V V V co4 ((knownT_spec.frame _)) ?_
 refine qO V <| op_not V V <| qN <| zF0 V (V) <| zZ <| zA <| zA <| qR V <| qM V V V <| qE V V Tryd.underlying22 V <| qC V V V V V <| qN ?_
 refine zO V (fun h13 => ?_) (fun h13 => ?_)
 ·
  refine zA <| qR V <| qA V V V <| qN <| zU ?_
  exact zL0 (.inr V) Tryd.results3 V (.of_eq (V)) (.bool _) Vv
 ·
  have hl60 : l.length ≤ 60 := by simp at h13; omega
  have hlen : l.length ≤ maxLen := by simp only [maxLen]; omega
  refine zZ <| zA <| qR V ?_
  refine qX V V V V co5 (new_spec _) ?_
  refine qO V <| op_build V Tryd.underlying28 zm28 .nil (by kernel_rfl) ?_
  refine qB V V V V V <| qA V V V <| qA V V V <| qN <| zA <| zA <| qR V <| qA V V V <| qN <| zW ?_
  refine mwp_loopKJ (α := List Bs × Nat × Nat) [(0, _), (3, _), (4, _)] (fun x => [(5, .int .i64 (x.2.2 : Int))]) (fun x => [tapeO (laids x.1) (x.2.1), tapeO (laids x.1) (x.2.1)]) (fun x => okR x.1 ∧ (laids x.1).length ≤ 100000 ∧ x.2.1 ≤ (laids x.1).length ∧ x.2.2 ≤ l.length) (fun x => l.length - x.2.2) (⟨[], 0, 0⟩) (Nat.le_refl _) (.keep V (.keep V (.keep V (.nil)))) (.keep V (.nil)) (⟨fun r hr => absurd hr List.not_mem_nil, by decide, Nat.le_refl _, Nat.zero_le _⟩) (V) ?_
  rintro ⟨rs, k, i⟩ ⟨hr, hb, hk, hi⟩
  dsimp only at hr hb hk hi ⊢
  refine zA <| zA <| qR V <| qM V V V <| qM V V V <| qE V V Tryd.underlying22 V <| qC V V V V V <| qN ?_
  refine zO V (fun h20 => ?_) (fun h20 => ?_)
  ·
   have hlt : i < l.length := by simpa using h20
   obtain ⟨⟨w, n, B⟩, hs⟩ : ∃ q_, l[i]? = some q_ := ⟨_, zF hlt⟩
   have hn : IntKind.i64.wrap n = n := hwf _ (zI hs)
   refine zZ <| zA <| zW <| zA <| qR V <| qM V V V <| qM V V V <| qO V <| op_indexAddr V Tryd.underlying22 sz30 (by decide) V V V (get_map hs) ?_
   refine qO V <| op_load_sptr V V ta30 V <| qO V <| op_alloc' V zm30 V V <| qO V <| op_store' V V V V sz30 V V (zB V) V <| qN <| zA <| qR V <| qA V V V <| qA V V V <| qN ?_
   refine mwp_joinA (α := Int × List Bs × Nat) (fun z => [(0, .lst none 3 (l.map encP)), (3, .ref 1 0), (4, .ref 2 0), (5, .int .i64 (i : Int)), (6, .ref 3 0), (7, .int .i64 z.1), (8, .int .i64 z.1)]) (fun z => [fixE] ++ [tapeO (laids z.2.1) (z.2.2), tapeO (laids z.2.1) (z.2.2), .cells [.int .i64 w, .int .i64 n, .str (bs B)]]) (fun z => okR z.2.1 ∧ (laids z.2.1).length ≤ 100000 ∧ z.2.2 ≤ (laids z.2.1).length) ?_ ?_
   ·
    refine zW <| zA <| qR V <| qF V V V zN0 <| qL V V V V ta9 V <| qO V <| zY V zD V <| qC V V V V V <| qA V V V <| qN ?_
    refine zO V (fun h42 => ?_) (fun h42 => ?_)
    ·
     refine zA <| qR V <| qA V V V <| qN <| zU ?_
     refine .inr ⟨nofun, ?_⟩
     exact zL0 (.inr V) Tryd.results3 V (.of_eq (V)) (.bool _) Vv
    ·
     have hB : B.length ≤ 500 := by simp at h42; omega
     have hBl := zM0 B
     have hBn := zC1 (show B.length < 2097152 by omega)
     refine zA <| qR V <| qF V V V fo30_0 <| qL V V V V ta3 V <| qC V V V V V <| qA V V V <| qN ?_
     refine zO V (fun h47 => ?_) (fun h47 => ?_)
     ·
      by_cases hfit : (laids rs).length + (laidB B).length ≤ 100000
      ·
       have happ : laids rs ++ laidB B = laids (rs ++ [B]) := by rw [zM1, laids_one]
       have hfl : (laids (rs ++ [B])).length = (laids rs).length + (laidB B).length := by rw [← happ, zG]
       refine zP0 [3, 4, 8] [_, [fixE] ++ [tapeO (laids rs ++ laidB B) (k), tapeO (laids rs) (k), .cells [.int .i64 w, .int .i64 n, .str (bs B)]], [fixE] ++ [tapeO (laids rs ++ laidB B) (k), tapeO (laids rs) (k), .cells [.int .i64 w, .int .i64 n, .str (bs B)]], [fixE] ++ [tapeO (laids rs ++ laidB B) (k), tapeO (laids rs ++ laidB B) (k), .cells [.int .i64 w, .int .i64 n, .str (bs B)]]] mo (by decide) V V V V ?_
       refine dO V V V (zJ V V Vv) <| zS V V (.cons (zE V V zN0 Vv) (.cons (zE V V zN0 Vv) (.cons (zE V V zN0 Vv) (.cons (zE V V zN0 Vv) (.nil))))) <| dO V V V (zB0 V V V ta9 V Vv) <| zW0 V V V V (zH0 V V V co7 (add_spec 1 (laids rs) k _ rfl (by omega) B (by omega) hfit)) ?_
       refine zW0 V V V V (zH0 V V V co6 (code14_nil _)) <| zS V V (.cons (zJ V V Vv) (.cons (zJ V V Vv) (.cons (zJ V V Vv) (.nil)))) <| zS V V (.cons (zE V V zN0 Vv) (.cons (zE V V zN0 Vv) (.cons (zE V V zN0 Vv) (.cons (zE V V zN0 Vv) (.nil))))) <| zS V V (.cons (zB0 V V V ta9 V Vv) (.cons (zB0 V V V ta9 V Vv) (.cons (zB0 V V V ta9 V Vv) (.nil)))) <| zW0 V V V V (zH0 V V V co8 (rAdd_spec 2 (laids rs) k _ rfl (by omega) B (by omega) hfit)) ?_
       refine dO V V V (zX0 V V Vv) <| dO V V V (zX0 V V Vv) <| zO0 ?_
       exact .inl ⟨(0, rs ++ [B], k), rfl, by rw [← happ], (.keep rfl (.keep rfl (.keep rfl (.keep rfl (.keep rfl (.keep rfl (.keep rfl (.nil)))))))), ⟨okR_app hr hB, by rw [hfl]; exact hfit, by dsimp only; rw [hfl]; omega⟩⟩
      ·
       refine zP0 [3, 4, 8] [_, [fixE] ++ [tapeO (laids rs) (k), tapeO (laids rs) (k), .cells [.int .i64 w, .int .i64 n, .str (bs B)]], [fixE] ++ [tapeO (laids rs) (k), tapeO (laids rs) (k), .cells [.int .i64 w, .int .i64 n, .str (bs B)]], [fixE] ++ [tapeO (laids rs) (k), tapeO (laids rs) (k), .cells [.int .i64 w, .int .i64 n, .str (bs B)]]] mo (by decide) V V V V ?_
       refine dO V V V (zJ V V Vv) <| zS V V (.cons (zE V V zN0 Vv) (.cons (zE V V zN0 Vv) (.cons (zE V V zN0 Vv) (.cons (zE V V zN0 Vv) (.nil))))) <| dO V V V (zB0 V V V ta9 V Vv) <| zW0 V V V V (zH0 V V V co7 (addFull_spec 1 (laids rs) k _ rfl (by omega) B (by omega) hfit)) ?_
       refine zW0 V V V V (zH0 V V V co6 (code14_err 15 _ rfl)) <| zS V V (.cons (zJ V V Vv) (.cons (zJ V V Vv) (.cons (zJ V V Vv) (.nil)))) <| zS V V (.cons (zE V V zN0 Vv) (.cons (zE V V zN0 Vv) (.cons (zE V V zN0 Vv) (.cons (zE V V zN0 Vv) (.nil))))) <| zS V V (.cons (zB0 V V V ta9 V Vv) (.cons (zB0 V V V ta9 V Vv) (.cons (zB0 V V V ta9 V Vv) (.nil)))) <| zW0 V V V V (zH0 V V V co8 (rAddFull_spec 2 (laids rs) k _ rfl (by omega) B (by omega) hfit)) ?_
       refine dO V V V (zX0 V V Vv) <| dO V V V (zX0 V V Vv) <| zO0 ?_
       exact .inl ⟨(15, rs, k), rfl, rfl, (.keep rfl (.keep rfl (.keep rfl (.keep rfl (.keep rfl (.keep rfl (.keep rfl (.nil)))))))), ⟨hr, hb, hk⟩⟩
     ·
      refine zA <| qR V <| qF V V V fo30_0 <| qL V V V V ta3 V <| qC V V V V V <| qA V V V <| qN ?_
      refine zO V (fun h60 => ?_) (fun h60 => ?_)
      ·
       refine zA <| qR V <| qM V V V ?_
       refine qX V V V V co9 (sync_spec 1 (laids rs) k _ rfl) ?_
       refine wOps_at ([fixE] ++ [tapeO (laids rs) ((laids rs).length), tapeO (laids rs) (k), .cells [.int .i64 w, .int .i64 n, .str (bs B)]]) V <| qN <| qR V <| qM V V V ?_
       refine qX V V V V co10 (rSync_spec 2 (laids rs) k _ rfl) ?_
       refine wOps_at ([fixE] ++ [tapeO (laids rs) ((laids rs).length), tapeO (laids rs) ((laids rs).length), .cells [.int .i64 w, .int .i64 n, .str (bs B)]]) V <| qN ?_
       exact .inl ⟨(0, rs, (laids rs).length), rfl, rfl, (.keep rfl (.keep rfl (.keep rfl (.keep rfl (.keep rfl (.keep rfl (.keep rfl (.nil)))))))), ⟨hr, hb, Nat.le_refl _⟩⟩
      ·
       refine zA <| qR V <| qF V V V fo30_0 <| qL V V V V ta3 V <| qC V V V V V <| qA V V V <| qN ?_
       refine zO V (fun h68 => ?_) (fun h68 => ?_)
       ·
        refine zA ?_
        obtain ⟨y, hy0⟩ : ∃ y, y = k + min n.toNat ((laids rs).length - k) := ⟨_, rfl⟩
        have hy : (laids rs).take y = (laids rs).take (k + min n.toNat ((laids rs).length - k)) := by rw [hy0]
        obtain ⟨j, hj1, hj2, hj3, hj4, hj5⟩ := crash_two hr y
        refine qR V <| qM V V V <| qF V V V fo30_1 <| qL V V V V ta3 V ?_
        refine qX V V V V co11 (crash_spec 1 (laids rs) k _ rfl hk (by omega) n hn ((laids rs).take y) hy) ?_
        rw [hj1, hj2]
        refine wOps_at ([fixE] ++ [tapeO (laids (rs.take j)) ((laids (rs.take j)).length), tapeO (laids rs) (k), .cells [.int .i64 w, .int .i64 n, .str (bs B)]]) V <| qN <| qR V <| qM V V V <| qF V V V fo30_1 <| qL V V V V ta3 V ?_
        refine qX V V V V co12 (rCrash_spec 2 (laids rs) k _ rfl hk (by omega) n hn ((laids rs).take y) hy) ?_
        rw [hj3, hj4]
        refine wOps_at ([fixE] ++ [tapeO (laids (rs.take j)) ((laids (rs.take j)).length), tapeO (laids (rs.take j)) ((laids (rs.take j)).length), .cells [.int .i64 w, .int .i64 n, .str (bs B)]]) V <| qN ?_
        exact .inl ⟨(0, rs.take j, (laids (rs.take j)).length), rfl, rfl, (.keep rfl (.keep rfl (.keep rfl (.keep rfl (.keep rfl (.keep rfl (.keep rfl (.nil)))))))), ⟨okR_take hr j, Nat.le_trans hj5 hb, Nat.le_refl _⟩⟩
       ·
        have hfit2 : (laids [B, B]).length ≤ 100000 := by have := laids_le (l := [B, B]) (okR_two hB); simp only [zK, List.length_nil] at this; omega
        refine zP0 [6, 7, 14] [_, [fixE] ++ [tapeO (laids [B, B]) ((laids [B, B]).length), tapeO (laids rs) (k), .cells [.int .i64 w, .int .i64 n, .str (bs B)]], [fixE] ++ [tapeO (laids [B, B]) ((laids [B, B]).length), tapeO (laids rs) (k), .cells [.int .i64 w, .int .i64 n, .str (bs B)]], [fixE] ++ [tapeO (laids [B, B]) ((laids [B, B]).length), tapeO (laids [B, B]) ((laids [B, B]).length), .cells [.int .i64 w, .int .i64 n, .str (bs B)]]] mo (by decide) V V V V ?_
        refine dO V V V (zJ V V Vv) <| zS V V (.cons (zE V V zN0 Vv) (.cons (zE V V zN0 Vv) (.cons (zE V V zN0 Vv) (.cons (zE V V zN0 Vv) (.nil))))) <| zS V V (.cons (zB0 V V V ta9 V Vv) (.cons (zB0 V V V ta9 V Vv) (.cons (zB0 V V V ta9 V Vv) (.cons (zB0 V V V ta9 V Vv) (.nil))))) <| zS V V (.cons (zE V V zN0 Vv) (.cons (zE V V zN0 Vv) (.cons (zE V V zN0 Vv) (.cons (zE V V zN0 Vv) (.nil))))) <| zS V V (.cons (zB0 V V V ta9 V Vv) (.cons (zB0 V V V ta9 V Vv) (.cons (zB0 V V V ta9 V Vv) (.cons (zB0 V V V ta9 V Vv) (.nil))))) <| dO V V V (zI0 V zQ el9 V V (by decide) (by decide) V V Vv) ?_
        refine zW0 V V V V (zH0 V V V co13 (replace_spec 1 (laids rs) k _ rfl [B, B] (okR_two hB) (by simp) hfit2)) ?_
        refine zW0 V V V V (zH0 V V V co6 (code14_nil _)) <| zS V V (.cons (zJ V V Vv) (.cons (zJ V V Vv) (.cons (zJ V V Vv) (.nil)))) <| zS V V (.cons (zE V V zN0 Vv) (.cons (zE V V zN0 Vv) (.cons (zE V V zN0 Vv) (.cons (zE V V zN0 Vv) (.nil))))) <| zS V V (.cons (zB0 V V V ta9 V Vv) (.cons (zB0 V V V ta9 V Vv) (.cons (zB0 V V V ta9 V Vv) (.cons (zB0 V V V ta9 V Vv) (.nil))))) <| zS V V (.cons (zE V V zN0 Vv) (.cons (zE V V zN0 Vv) (.cons (zE V V zN0 Vv) (.cons (zE V V zN0 Vv) (.nil))))) <| zS V V (.cons (zB0 V V V ta9 V Vv) (.cons (zB0 V V V ta9 V Vv) (.cons (zB0 V V V ta9 V Vv) (.cons (zB0 V V V ta9 V Vv) (.nil))))) <| zS V V (.cons (zI0 V zQ el9 V V (by decide) (by decide) V V Vv) (.cons (zI0 V zQ el9 V V (by decide) (by decide) V V Vv) (.cons (zI0 V zQ el9 V V (by decide) (by decide) V V Vv) (.nil)))) ?_
        refine zW0 V V V V (zH0 V V V co14 (rReplace_spec 2 (laids rs) k _ rfl [B, B] (okR_two hB) (by simp) hfit2)) ?_
        refine dO V V V (zX0 V V Vv) <| dO V V V (zX0 V V Vv) <| zO0 ?_
        exact .inl ⟨(0, [B, B], (laids [B, B]).length), rfl, rfl, (.keep rfl (.keep rfl (.keep rfl (.keep rfl (.keep rfl (.keep rfl (.keep rfl (.nil)))))))), ⟨okR_two hB, hfit2, Nat.le_refl _⟩⟩
   ·
    rintro ⟨c2, rs2, k2⟩ ⟨hr2, hb2, hk2⟩
    dsimp only at hr2 hb2 hk2 ⊢
    refine zA ?_
    refine zP0 [] [_] mo (by decide) V V V V ?_
    refine dO V V V (zJ V V Vv) <| dO V V V (zJ V V Vv) <| dO V V V (op_cmp V V V (neqI _) Vv) <| dO V V V (zJ V V Vv) <| dO V V V (zJ V V Vv) <| zS V V (.cons (zH0 V V V co16 (records2 1 rs2 k2 _ rfl hr2 hb2)) .nil) <| dO V V V (zJ V V Vv) <| zS V V (.cons (zH0 V V V co17 (rRecords2 2 rs2 k2 _ rfl hr2 hb2)) .nil) <| zS V V (.cons (zH0 V V V co15 (sameT rs2 _)) .nil) <| dO V V V (op_not V V Vv) <| dO V V V (zZ0 V V V Vv) <| dO V V V (zJ V V Vv) <| dO V V V (zJ V V Vv) <| zS V V (.cons (zH0 V V V co18 (loose_spec 1 (laids rs2) k2 _ rfl hk2 (by omega))) .nil) ?_
    refine dO V V V (zJ V V Vv) <| zS V V (.cons (zH0 V V V co19 (rLoose_spec 2 (laids rs2) k2 _ rfl hk2 (by omega))) .nil) ?_
    refine dO V V V (op_cmp V V V (neqI _) Vv) <| dO V V V (zZ0 V V V Vv) <| dO V V V (zJ V V Vv) <| dO V V V (zJ V V Vv) <| zS V V (.cons (zH0 V V V co20 (len_spec 1 (laids rs2) k2 _ rfl)) .nil) <| dO V V V (zJ V V Vv) <| dO V V V (zH V V V Vv) <| dO V V V (zE V V zL1 Vv) <| dO V V V (zJ0 V V (show ([fixE] ++ [tapeO (laids rs2) (k2), tapeO (laids rs2) (k2), .cells [.int .i64 w, .int .i64 n, .str (bs B)]])[2]? = some (.cells [.str (bs (laids rs2)), .int .i64 (k2 : Int)]) from V) ta9 V Vv) <| dO V V V (zY V zD V Vv) <| dO V V V (op_cmp V V V (neqI _) Vv) <| dO V V V (zZ0 V V V Vv) <| zO0 <| zF0 V (V) <| zZ <| qR V <| qM V V V <| qO V <| zV V V V V <| qA V V V <| qN ?_
    refine ⟨⟨rs2, k2, i + 1⟩, [.cells [.int .i64 w, .int .i64 n, .str (bs B)]], by dsimp only; omega, ⟨hr2, hb2, hk2, by dsimp only; omega⟩, rfl, .new (zD1 _ _ _) (.new (zD1 _ _ _) .nil), (.old V V (.old V V (.old V V (.nil)))), (.new' V (zK1 hlt hlen) (.int _ _) (.nil))⟩
  ·
   have hge : i = l.length := by simp at h20; omega
   refine zT0 <| zA <| qR V <| qA V V V <| qN <| zU ?_
   exact zL0 (.inr V) Tryd.results3 V (.of_eq (V)) (.bool _) Vv
end Go.Proofs.YtplclefbiimnbaaDoor
namespace Go.MV
open Go Go.RowKit Go.WideShapes Go.ChangeShapes
section
section
variable {H : Type} {enc : TypeId × Value → H} {P : Program} {W : World} {base b0 : Nat} {spare : Nat → Bool} {held : Bool} {r : Reach} {ts : List TypeId} {t : TypeId} {v : Value} {d : DataW H} {p : List MemPlace}
theorem tyM_intK {k : IntKind} (hu : P.underlying t = some (.int k)) {n : Nat} {l : List MV} (h : TyM P n t l) : ∃ v, l = [.int k v] ∧ (Lit.int k v).wf = true := by
 cases n with
 | zero => exact h.elim
 | succ n => unfold TyM at h; rw [hu] at h; exact h
theorem tyM_str (hu : P.underlying t = some .string) {n : Nat} {l : List MV} (h : TyM P n t l) : ∃ s : Bs, l = [.str (bs s)] ∧ s.length ≤ maxLen := by
 cases n with
 | zero => exact h.elim
 | succ n =>
  unfold TyM at h; rw [hu] at h
  obtain ⟨s, rfl, hs⟩ := h
  exact ⟨strL s, by rw [bs_strL], by unfold strL; rw [Array.length_toList]; exact hs⟩
theorem tyM_slice {e : TypeId} (hu : P.underlying t = some (.slice e)) {n : Nat} {l : List MV} (h : TyM P n t l) : ∃ xs m, m + 1 = n ∧ l = [.lst none (P.cellsOf e) xs] ∧ ∀ x ∈ xs, x.cells.length = P.cellsOf e ∧ TyM P m e x.cells ∧ ElF P e x := by
 cases n with
 | zero => exact h.elim
 | succ n =>
  unfold TyM at h; rw [hu] at h
  obtain ⟨xs, h1, h2⟩ := h
  exact ⟨xs, n, rfl, h1, h2⟩
theorem tyM_struct {fs : Array Field} (hu : P.underlying t = some (.struct fs)) {n : Nat} {l : List MV} (h : TyM P n t l) : ∃ m, m + 1 = n ∧ TyFs (TyM P m) fs.toList l := by
 cases n with
 | zero => exact h.elim
 | succ n => unfold TyM at h; rw [hu] at h; exact ⟨n, rfl, h⟩
theorem all_enc {α : Type} {enc : α → MV} {q : α → Prop} : ∀ {xs : List MV}, (∀ x ∈ xs, ∃ a, x = enc a ∧ q a) → ∃ l : List α, xs = l.map enc ∧ ∀ a ∈ l, q a
 | [], _ => ⟨[], rfl, fun a h => by cases h⟩
 | x :: xs, h => by
  obtain ⟨l, rfl, hl⟩ := all_enc (fun y hy => h y (zR _ hy))
  obtain ⟨a, rfl, ha⟩ := h x (zP ..)
  refine ⟨a :: l, rfl, fun b hb => ?_⟩
  rcases List.mem_cons.1 hb with rfl | hb
  ·exact ha
  ·exact hl b hb
theorem rd_of_rds {g : Gh} {w : World} {m : MV} {v : Value} (h : Rds g w [m] [v]) : Rd g w m v := h.2 0 _ _ rfl rfl
theorem arg_slice {e : TypeId} {α : Type} {en : α → MV} {q : α → Prop} (hok : okTypes P ts = true) (ht : t ∈ ts) (hu : P.underlying t = some (.slice e)) (hel : ∀ m x, x.cells.length = P.cellsOf e → TyM P m e x.cells → ElF P e x → ∃ a, x = en a ∧ q a)
  (hv : Value.okWide P W r b0 t v) (h : DataW.Trod enc P W base spare held t v d p) : ∃ l : List α, Rd (g0 W) W (.lst none (P.cellsOf e) (l.map en)) v ∧ (∀ a ∈ l, q a) ∧ l.length ≤ maxLen := by
 obtain ⟨a, n, c, rfl⟩ := okWide_slice hu hv
 obtain ⟨l, m, h1, h2⟩ := arg_one hok ht rfl h
 obtain ⟨xs, m, _, rfl, hx⟩ := tyM_slice hu h2
 obtain ⟨l, rfl, hl⟩ := all_enc (fun x hx' => hel m x (hx x hx').1 (hx x hx').2.1 (hx x hx').2.2)
 refine ⟨l, rd_of_rds h1, hl, ?_⟩
 obtain ⟨_, _, _, _, h3, h4, _⟩ := (rd_of_rds h1).inv_lst
 have := Nat.le_trans h3 h4
 rwa [zT] at this
theorem wf_i64 {n : Int} (h : (Lit.int .i64 n).wf = true) : -9223372036854775808 ≤ n ∧ n ≤ 9223372036854775807 := by
 simp [Lit.wf, IntKind.min, IntKind.max, IntKind.signed, IntKind.bits] at h
 omega
end
end
end Go.MV
namespace Go.Proofs.YtplclefbiimnbaaDoor
open Go Go.MV
theorem cells_step : Tryd.prog.cellsOf 30 = 3 := by kernel_rfl
theorem el_step (m : Nat) (x : MV) (_ : x.cells.length = Tryd.prog.cellsOf 30) (h : TyM Tryd.prog m 30 x.cells) (he : ElF Tryd.prog 30 x) : ∃ a : Stp, x = encP a ∧ IntKind.i64.wrap a.2.1 = a.2.1 := by
 obtain ⟨m', _, h⟩ := tyM_struct Tryd.underlying30 h
 obtain ⟨a, _, e1, h1, b, _, e2, h2, c, _, e3, h3, e4⟩ := h
 subst e4
 obtain ⟨w, rfl, _⟩ := tyM_intK zS0 h1
 obtain ⟨n, rfl, hw⟩ := tyM_intK zS0 h2
 obtain ⟨s, rfl, _⟩ := tyM_str zD h3
 subst e3 e2
 have hn := wf_i64 hw
 simp only [ElF, Tryd.underlying30] at he
 refine ⟨(w, n, s), ?_, wrap_i64 (by omega)⟩
 rw [he, e1]
 rfl
theorem arg_steps {ts : List TypeId} (hok : okTypes Tryd.prog ts = true) (ht : 22 ∈ ts) {H : Type} {enc : TypeId × Value → H} {W : World} {base b0 : Nat} {spare : Nat → Bool} {held : Bool} {r : Reach} {v : Value} {d : DataW H} {p : List MemPlace} (hv : Value.okWide Tryd.prog W r b0 22 v) (h : DataW.Trod enc Tryd.prog W base spare held 22 v d p) :
  ∃ c : List Stp, Rd (g0 W) W (.lst none 3 (c.map encP)) v ∧ (∀ t ∈ c, IntKind.i64.wrap t.2.1 = t.2.1) ∧ c.length ≤ maxLen := by
 obtain ⟨c, h1, h2, h3⟩ := arg_slice (en := encP) hok ht Tryd.underlying22 el_step hv h
 rw [cells_step] at h1
 exact ⟨c, h1, h2, h3⟩
end Go.Proofs.YtplclefbiimnbaaDoor
