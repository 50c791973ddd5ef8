/-
  Texts on which the proof of CodeBack leans: part 4.
-/
import Derived.Test.YtplclefbiimnbaaGreatCodeBackC
import Derived.Deep.Slices
import Derived.ChangeSame
import Derived.ProofKit
import Derived.OpenShut
import Derived.ChangeOld
import Derived.SizedLaws
import Derived.Carry
import Derived.Test.YtplclefbiimnbaaGreatRows
import Derived.Laws.MakeOwn
import Derived.Laws.IdiomStrings
set_option linter.unusedVariables false
set_option linter.unusedSimpArgs false
set_option maxRecDepth 20000
set_option maxHeartbeats 8000000
namespace Go.Proofs.YtplclefbiimnbaaGreat
open Go Go.MV
theorem valIs_spec (s : Sch) (x : Val) (hx : okV x) (S : MS) : MCalls Tryz.prog 18 [encS s, encV x] S fun v σ' => v = .bool (isF 16 s && isVF s x) ∧ σ' = S := by
 obtain ⟨k, ins⟩ := s
 obtain ⟨n, m, s, c, w⟩ := x
 refine zN Tryz.func18 V Tryz.ntmps18 (zB V) ?_
 refine zA <| qR V <| qB V V V V V <| qB V V V V V <| qA V V V <| qN <| zA <| qR V <| qL V V V V ta24 V ?_
 refine qX V V V V co21 (Is_spec (.mk k ins) _) ?_
 refine qM V V V ?_
 refine zB0 (fun h7 => ?_) (fun h7 => ?_)
 ·
  refine qL V V V V ta24 V <| qL V V V V ta30 V ?_
  refine qX V V V V co36 (isV_spec 16 (.mk k ins) h7 (.mk n m s c w) hx _) ?_
  refine qP V V V V <| qA V V V <| qN <| zG ?_
  exact zK (.inr V) Tryz.results18 V (.of_eq (by simp_all)) (.bool _) Vv
 ·
  refine qS V <| qS V <| qS V <| qP V V V V <| qA V V V <| qN <| zG ?_
  exact zK (.inr V) Tryz.results18 V (.of_eq (by simp_all)) (.bool _) Vv
theorem xSame_spec (a b : List Bs) (S : MS) : MCalls Tryz.prog 26 [.lst none 1 (a.map encX), .lst none 1 (b.map encX)] S fun v σ' => v = .bool (decide (a = b)) ∧ σ' = S := by
 refine zN Tryz.func26 V Tryz.ntmps26 (zB V) ?_
 refine zP2 (t := 0) V fun hlen => ?_
 rw [zH] at hlen
 refine zA <| qR V <| qA V V V <| qN <| zA <| zA <| qR V <| qM V V V <| qE V V zA0 V <| qM V V V <| qE V V zA0 V <| qC V V V V V <| qN ?_
 refine zE V (fun h10 => ?_) (fun h10 => ?_)
 ·
  refine zA <| qR V <| qA V V V <| qN <| zG ?_
  exact zK (.inr V) Tryz.results26 V (.of_eq (by congr 1; symm; rw [decide_eq_false_iff_not]; intro e; subst e; simp at h10)) (.bool _) Vv
 ·
  have hab : a.length = b.length := by simp at h10; omega
  refine zQ <| zA <| zA <| qR V <| qA V V V <| qN <| zW ?_
  refine zD1 (α := Nat) [(0, _), (1, _)] (fun i => [(5, .int .i64 (i : Int))]) (fun i => []) (fun i => i ≤ a.length ∧ a.take i = b.take i) (fun i => a.length - i) (0) (.keep V (.keep V (.nil))) (.keep V (.nil)) (⟨by omega, rfl⟩) (V) ?_
  rintro i ⟨hi, heq⟩
  refine zA <| zA <| qR V <| qM V V V <| qM V V V <| qE V V zA0 V <| qC V V V V V <| qN ?_
  refine zE V (fun h14 => ?_) (fun h14 => ?_)
  ·
   have hlt : i < a.length := by simpa using h14
   obtain ⟨x, hs⟩ : ∃ q_, a[i]? = some q_ := ⟨_, zD hlt⟩
   obtain ⟨y, hs2⟩ : ∃ s, b[i]? = some s := ⟨_, zD (by omega)⟩
   refine zQ <| zA <| zW <| zA ?_
   refine zV0 [] [_] mo (by decide) V V V V ?_
   refine dO V V V (zY V V Vv) <| dO V V V (zY V V Vv) <| dO V V V (zO V zA0 sz9 (by decide) V V V (zE1 hs) Vv) ?_
   refine dO V V V (zP V V ta9 V Vv) <| dO V V V (zY V V Vv) <| dO V V V (zY V V Vv) <| dO V V V (zO V zA0 sz9 (by decide) V V V (zE1 hs2) Vv) ?_
   refine dO V V V (zP V V ta9 V Vv) <| dO V V V (zZ2 V V V V Vv) <| zO0 ?_
   refine zE V (fun h25 => ?_) (fun h25 => ?_)
   ·
    refine zA <| qR V <| qA V V V <| qN <| zG ?_
    exact zK (.inr V) Tryz.results26 V (.of_eq (by congr 1; symm; rw [decide_eq_false_iff_not]; intro e; subst e; rw [hs2] at hs; injection hs with hs; subst hs; simp at h25)) (.bool _) Vv
   ·
    refine zQ <| qR V <| qM V V V <| qO V <| zU0 V V V V <| qA V V V <| qN ?_
    refine ⟨i + 1, by omega, ⟨by omega, ?_⟩, rfl, (.keep V (.keep V (.nil))), (.eq V (zH1 hlt hlen) (.nil))⟩
    rw [List.take_add_one, List.take_add_one, hs, hs2, heq]
    simp at h25
    rw [h25]
  ·
   have hge : i = a.length := by simp at h14; omega
   refine zA1 <| zA <| qR V <| qA V V V <| qN <| zG ?_
   exact zK (.inr V) Tryz.results26 V (.of_eq (by congr 1; symm; rw [decide_eq_true_iff]; rw [hge, List.take_length, hab, List.take_length] at heq; exact heq)) (.bool _) Vv
theorem _root_.zR3 : type_of% @Tryz.results10 := @Tryz.results10
theorem rvSame_spec (d : Nat) : ∀ (a b : Val), vdepth a ≤ d → ∀ S : MS, MCalls Tryz.prog 10 [encV a, encV b] S fun v σ' => v = .bool (decide (a = b)) ∧ σ' = S := by
 induction d with
 | zero => rintro ⟨n, m, s, c, w⟩ b h; simp [vdepth] at h
 | succ d ih =>
 rintro ⟨n, m, s, c, w⟩ ⟨n2, m2, s2, c2, w2⟩ hd S
 have hmem : ∀ x ∈ w, vdepth x ≤ d := fun x hx => by have := vdepth_mem hx; rw [vdepth] at hd; omega
 refine zN Tryz.func10 V Tryz.ntmps10 (zB V) ?_
 refine zA <| qR V <| qB V V V V V <| qB V V V V V <| qA V V V <| qN <| zA <| zA <| qR V <| qF V V V zB4 <| qL V V V V ta25 V <| qF V V V zB4 <| qL V V V V ta25 V <| qC V V V V V <| qM V V V ?_
 refine zB0 (fun h12 => ?_) (fun h12 => ?_)
 ·
  refine qT V V V V <| qS V <| qP V V V V <| qM V V V <| qT V V V V <| qS V <| qS V <| qP V V V V <| qM V V V <| qT V V V V <| qS V <| qS V <| qS V <| qP V V V V <| qM V V V ?_
  refine qT V V V V <| qS V <| qS V <| qS V <| qP V V V V <| qN <| zX V (V) <| zA <| qR V <| qA V V V <| qN <| zG ?_
  exact zK (.inr V) zR3 V (.of_eq (by congr 1; rw [zC]; simp_all <;> (intros; simp_all))) (.bool _) Vv
 ·
  refine qF V V V zX4 <| qL V V V V ta25 V <| qF V V V zX4 <| qL V V V V ta25 V <| qC V V V V V <| qP V V V V <| qM V V V ?_
  refine zB0 (fun h19 => ?_) (fun h19 => ?_)
  ·
   refine qT V V V V <| qS V <| qS V <| qP V V V V <| qM V V V <| qT V V V V <| qS V <| qS V <| qS V <| qP V V V V <| qM V V V <| qT V V V V <| qS V <| qS V <| qS V <| qP V V V V ?_
   refine qN <| zX V (V) <| zA <| qR V <| qA V V V <| qN <| zG ?_
   exact zK (.inr V) zR3 V (.of_eq (by congr 1; rw [zC]; simp_all <;> (intros; simp_all))) (.bool _) Vv
  ·
   refine qF V V V zT1 <| qL V V V V ta26 V <| qF V V V zT1 <| qL V V V V ta26 V ?_
   refine qX V V V V co26 (xSame_spec s s2 _) ?_
   refine qO V <| zL1 V V <| qP V V V V <| qM V V V ?_
   refine zB0 (fun h27 => ?_) (fun h27 => ?_)
   ·
    refine qT V V V V <| qS V <| qS V <| qS V <| qP V V V V <| qM V V V <| qT V V V V <| qS V <| qS V <| qS V <| qP V V V V <| qN <| zX V (V) <| zA <| qR V <| qA V V V <| qN <| zG ?_
    exact zK (.inr V) zR3 V (.of_eq (by congr 1; rw [zC]; simp_all <;> (intros; simp_all))) (.bool _) Vv
   ·
    refine qF V V V zS1 <| qL V V V V ta27 V <| qE V V zS V <| qF V V V zS1 <| qL V V V V ta27 V <| qE V V zS V <| qC V V V V V <| qP V V V V <| qM V V V ?_
    refine zB0 (fun h36 => ?_) (fun h36 => ?_)
    ·
     have hcne : ¬ c = c2 := by intro e; subst e; simp at h36
     refine qT V V V V <| qS V <| qS V <| qS V <| qP V V V V <| qN <| zX V (V) <| zA <| qR V <| qA V V V <| qN <| zG ?_
     exact zK (.inr V) zR3 V (.of_eq (by congr 1; rw [zC]; simp_all <;> (intros; simp_all))) (.bool _) Vv
    ·
     have hcc : c.length = c2.length := by rw [zH, zH] at h36; simp at h36; omega
     refine qF V V V zO1 <| qL V V V V ta28 V <| qE V V zT V <| qF V V V zO1 <| qL V V V V ta28 V <| qE V V zT V <| qC V V V V V <| qP V V V V <| qN ?_
     refine zE V (fun h44 => ?_) (fun h44 => ?_)
     ·
      have hwne : ¬ w = w2 := by intro e; subst e; simp at h44
      refine zA <| qR V <| qA V V V <| qN <| zG ?_
      exact zK (.inr V) zR3 V (.of_eq (by congr 1; rw [zC]; simp_all <;> (intros; simp_all))) (.bool _) Vv
     ·
      have hww : w.length = w2.length := by rw [zZ, zZ] at h44; simp at h44; omega
      refine zP2 (t := 29) V fun hlc => ?_
      refine zP2 (t := 38) V fun hlw => ?_
      rw [zH] at hlc
      rw [zZ] at hlw
      refine zQ <| zA <| zA <| qR V <| qA V V V <| qN <| zW ?_
      refine zD1 (α := Nat) [(2, _), (3, _)] (fun i => [(5, .int .i64 (i : Int))]) (fun i => [.cells (encV (.mk n m s c w)).cells, .cells (encV (.mk n2 m2 s2 c2 w2)).cells]) (fun i => i ≤ c.length ∧ c.take i = c2.take i) (fun i => c.length - i) (0) (.keep V (.keep V (.nil))) (.keep V (.nil)) (⟨by omega, rfl⟩) (V) ?_
      rintro i ⟨hi, heq⟩
      refine zA <| zA <| qR V <| qM V V V <| qF V V V zS1 <| qL V V V V ta27 V <| qE V V zS V <| qC V V V V V <| qN ?_
      refine zE V (fun h49 => ?_) (fun h49 => ?_)
      ·
       have hlt : i < c.length := by simpa using h49
       obtain ⟨x, hs⟩ : ∃ q_, c[i]? = some q_ := ⟨_, zD hlt⟩
       obtain ⟨y, hs2⟩ : ∃ s, c2[i]? = some s := ⟨_, zD (by omega)⟩
       refine zQ <| zA <| zW <| zA ?_
       refine zV0 [] [_] mo (by decide) V V V V ?_
       refine dO V V V (zL V V zS1 Vv) <| dO V V V (zL0 V V V ta27 V Vv) <| dO V V V (zY V V Vv) <| dO V V V (zO V zS sz68 (by decide) V V V (zE1 hs) Vv) ?_
       refine dO V V V (zP V V ta68 V Vv) <| dO V V V (zL V V zS1 Vv) <| dO V V V (zL0 V V V ta27 V Vv) <| dO V V V (zY V V Vv) <| dO V V V (zO V zS sz68 (by decide) V V V (zE1 hs2) Vv) ?_
       refine dO V V V (zP V V ta68 V Vv) <| zV V V (.cons (zX0 V V V co27 (rSameC_spec x y _)) .nil) <| dO V V V (zL1 V V Vv) <| zO0 ?_
       refine zE V (fun h63 => ?_) (fun h63 => ?_)
       ·
        refine zA <| qR V <| qA V V V <| qN <| zG ?_
        exact zK (.inr V) zR3 V (.of_eq (by congr 1; symm; rw [decide_eq_false_iff_not]; intro e; injection e with e1 e2 e3 e4 e5; subst e4; rw [hs2] at hs; injection hs with hs; subst hs; simp at h63)) (.bool _) Vv
       ·
        refine zQ <| qR V <| qM V V V <| qO V <| zU0 V V V V <| qA V V V <| qN ?_
        refine ⟨i + 1, by omega, ⟨by omega, ?_⟩, rfl, (.keep V (.keep V (.nil))), (.eq V (zH1 hlt hlc) (.nil))⟩
        rw [List.take_add_one, List.take_add_one, hs, hs2, heq, not_dec h63]
      ·
       have hge : i = c.length := by simp at h49; omega
       rw [hge, List.take_length, hcc, List.take_length] at heq
       refine zA1 <| zA <| zA <| qR V <| qA V V V <| qN <| zW ?_
       refine zD1 (α := Nat) [(2, _), (3, _)] (fun k => [(6, .int .i64 (k : Int))]) (fun k => [.cells (encV (.mk n m s c w)).cells, .cells (encV (.mk n2 m2 s2 c2 w2)).cells]) (fun k => k ≤ w.length ∧ w.take k = w2.take k) (fun k => w.length - k) (0) (.keep V (.keep V (.nil))) (.keep V (.nil)) (⟨by omega, rfl⟩) (V) ?_
       rintro k ⟨hk, heq2⟩
       refine zA <| zA <| qR V <| qM V V V <| qF V V V zO1 <| qL V V V V ta28 V <| qE V V zT V <| qC V V V V V <| qN ?_
       refine zE V (fun h68 => ?_) (fun h68 => ?_)
       ·
        rw [zZ] at h68
        have hlt2 : k < w.length := by simpa using h68
        obtain ⟨⟨n3, m3, s3, c3, w3⟩, hs3⟩ : ∃ q, w[k]? = some q := ⟨_, zD hlt2⟩
        obtain ⟨⟨n4, m4, s4, c4, w4⟩, hs4⟩ : ∃ q, w2[k]? = some q := ⟨_, zD (by omega)⟩
        refine zQ <| zA <| zW <| zA ?_
        refine zV0 [] [_] mo (by decide) V V V V ?_
        refine dO V V V (zL V V zO1 Vv) <| dO V V V (zL0 V V V ta28 V Vv) <| dO V V V (zY V V Vv) <| dO V V V (zO V zT sz30 (by decide) V V V (zE5 hs3) Vv) ?_
        refine dO V V V (zP V V ta30 V Vv) <| dO V V V (zL V V zO1 Vv) <| dO V V V (zL0 V V V ta28 V Vv) <| dO V V V (zY V V Vv) <| dO V V V (zO V zT sz30 (by decide) V V V (zE5 hs4) Vv) ?_
        refine dO V V V (zP V V ta30 V Vv) <| zV V V (.cons (zX0 V V V co10 (ih (.mk n3 m3 s3 c3 w3) (.mk n4 m4 s4 c4 w4) (hmem _ (zU hs3)) _)) .nil) <| dO V V V (zL1 V V Vv) <| zO0 ?_
        refine zE V (fun h82 => ?_) (fun h82 => ?_)
        ·
         refine zA <| qR V <| qA V V V <| qN <| zG ?_
         exact zK (.inr V) zR3 V (.of_eq (by congr 1; symm; rw [decide_eq_false_iff_not]; intro e; injection e with e1 e2 e3 e4 e5; subst e5; rw [hs4] at hs3; injection hs3 with hs3; rw [hs3] at h82; simp at h82)) (.bool _) Vv
        ·
         refine zQ <| qR V <| qM V V V <| qO V <| zU0 V V V V <| qA V V V <| qN ?_
         refine ⟨k + 1, by omega, ⟨by omega, ?_⟩, rfl, (.keep V (.keep V (.nil))), (.eq V (zH1 hlt2 hlw) (.nil))⟩
         rw [List.take_add_one, List.take_add_one, hs3, hs4, heq2, not_dec h82]
       ·
        rw [zZ] at h68
        have hge2 : k = w.length := by simp at h68; omega
        rw [hge2, List.take_length, hww, List.take_length] at heq2
        refine zA1 <| zA <| qR V <| qA V V V <| qN <| zG ?_
        exact zK (.inr V) zR3 V (.of_eq (by congr 1; rw [zC]; simp_all)) (.bool _) Vv
theorem rSame_spec (a b : Val) (S : MS) : MCalls Tryz.prog 10 [encV a, encV b] S fun v σ' => v = .bool (decide (a = b)) ∧ σ' = S := rvSame_spec _ a b (Nat.le_refl _) S
end Go.Proofs.YtplclefbiimnbaaGreat
namespace Go.Proofs.YtplclefbiimnbaaGreat
open Go Go.MV Go.RowKit
structure PrAt (S : MS) (id t : Nat) (l : Bs) : Prop where
 ne : id ≠ t
 ob : ∃ p, (p = .ptr0 ∨ p = .ref id 0) ∧ S[id]? = some (.tcells 57 [p, .lst (some t) 1 (l.map encY)])
 row : S[t]? = some (.row 5 1 l.length)
theorem PrAt.idl {S : MS} {id t : Nat} {l : Bs} (h : PrAt S id t l) : id < S.length := by
 obtain ⟨p, _, hp⟩ := h.ob
 exact (zI.1 hp).1
theorem PrAt.tl {S : MS} {id t : Nat} {l : Bs} (h : PrAt S id t l) : t < S.length := (zI.1 h.row).1
theorem PrAt.pr {S : MS} {id t : Nat} {l : Bs} (h : PrAt S id t l) (m : Bs) : PrAt (pr S id t m) id t m := by
 refine ⟨h.ne, ⟨_, .inr rfl, ?_⟩, ?_⟩
 ·unfold Go.Proofs.YtplclefbiimnbaaGreat.pr prO
  exact get_neO h.ne.symm (by rw [List.getElem?_set_self h.idl])
 ·unfold Go.Proofs.YtplclefbiimnbaaGreat.pr
  rw [List.getElem?_set_self (by simpa using h.tl)]
theorem PrAt.sl {S : MS} {id t : Nat} {l : Bs} (h : PrAt S id t l) (L : MS) : PrAt (S ++ L) id t l := by
 obtain ⟨p, hp, ho⟩ := h.ob
 exact ⟨h.ne, ⟨p, hp, zN2 ho⟩, zN2 h.row⟩
theorem pr_sl {S : MS} {id t : Nat} {l m : Bs} (h : PrAt S id t l) (L : MS) : pr (S ++ L) id t m = pr S id t m ++ L := by
 unfold pr
 rw [List.set_append_left _ _ h.idl, List.set_append_left _ _ (by simpa using h.tl)]
theorem pr_pr {S : MS} {id t : Nat} {l m n : Bs} (h : PrAt S id t l) : pr (pr S id t m) id t n = pr S id t n := by
 unfold pr
 rw [List.set_comm _ _ h.ne.symm, List.set_set, List.set_set]
theorem write_at {S : MS} {id t : Nat} {l : Bs} (h : PrAt S id t l) (s : Bs) (hlen : l.length + s.length ≤ 10000000) (L : MS) : MCalls Tryz.prog 38 [.ref id 0, .str (bs s)] (S ++ L) fun v σ' => v = .tup [.int .i64 (s.length : Int), .iface0] ∧ σ' = pr S id t (l ++ s) ++ L := by
 obtain ⟨p, hp, ho⟩ := (h.sl L).ob
 refine (write_spec id t p hp l s h.ne _ ho (h.sl L).row hlen).mono fun v σ' hv => ⟨hv.1, ?_⟩
 rw [hv.2, pr_sl h]
def Writes (k : FuncId) (id t : Nat) (xs : List MV) (s : Bs) : Prop := ∀ (l : Bs) (S : MS), PrAt S id t l → l.length + s.length ≤ 8000000 → MCalls Tryz.prog k xs S fun v σ' => v = .tup [] ∧ σ' = pr S id t (l ++ s)
theorem Writes.sl {k : FuncId} {id t : Nat} {xs : List MV} {s l : Bs} (hw : Writes k id t xs s) {S : MS} (h : PrAt S id t l) (hl : l.length + s.length ≤ 8000000) (L : MS) : MCalls Tryz.prog k xs (S ++ L) fun v σ' => v = .tup [] ∧ σ' = pr S id t (l ++ s) ++ L :=
 (hw l (S ++ L) (h.sl L) hl).mono fun v σ' hv => ⟨hv.1, by rw [hv.2, pr_sl h]⟩
def WritesN (k : FuncId) (id t : Nat) (xs : List MV) (s : Bs) : Prop := ∀ (l : Bs) (S : MS), PrAt S id t l → l.length + s.length ≤ 9000000 → MCalls Tryz.prog k xs S fun v σ' => v = .tup [] ∧ σ' = pr S id t (l ++ s)
theorem WritesN.sl {k : FuncId} {id t : Nat} {xs : List MV} {s l : Bs} (hw : WritesN k id t xs s) {S : MS} (h : PrAt S id t l) (hl : l.length + s.length ≤ 9000000) (L : MS) : MCalls Tryz.prog k xs (S ++ L) fun v σ' => v = .tup [] ∧ σ' = pr S id t (l ++ s) ++ L :=
 (hw l (S ++ L) (h.sl L) hl).mono fun v σ' hv => ⟨hv.1, by rw [hv.2, pr_sl h]⟩
theorem flat_len {s : List Bs} (h : ∀ x ∈ s, x.length ≤ 1000) : ∀ i, ((s.take i).flatMap textB).length ≤ i * 1003
 | 0 => by simp
 | i + 1 => by
  have ih := flat_len h i
  rw [List.take_add_one, List.flatMap_append, zF]
  cases hs : s[i]? with
  | none => simp only [Option.toList_none, List.flatMap_nil, List.length_nil]; omega
  | some x =>
   have hx := h x (zU hs)
   have := (numB_len (show x.length < 2097152 by omega)).2
   simp only [Option.toList_some, List.flatMap_cons, List.flatMap_nil, List.append_nil, textB, zF]
   omega
theorem flat_take {s : List Bs} {i : Nat} {x : Bs} (h : s[i]? = some x) : (s.take (i + 1)).flatMap textB = (s.take i).flatMap textB ++ textB x := by
 rw [List.take_add_one, h, List.flatMap_append]
 simp
theorem numB_len10 : ∀ k m : Nat, m < 128 ^ (k + 1) → (numB m).length ≤ k + 1
 | 0, m, h => by rw [zC5 (by simpa using h)]; simp
 | k + 1, m, h => by
  by_cases hm : m < 128
  ·rw [zC5 hm]; simp
  ·have := numB_len10 k (m / 128) (by rw [Nat.pow_succ] at h; omega)
   rw [numB_hi hm]
   simp
   exact this
theorem _root_.zQ2 : type_of% @numB_len10 := @numB_len10
theorem num_writes (id t n : Nat) (hn : n < 18446744073709551616) : WritesN 37 id t [.ref id 0, .int .u64 (n : Int)] (numB n) := by
 intro l S h hl
 have hnl := zQ2 9 n (by omega)
 refine zN Tryz.func37 V Tryz.ntmps37 (zB V) ?_
 refine zS0 fun _ hcl => ?_
 rw [List.append_nil] at hcl
 refine zV0 [5] [_, pr S id t (l ++ numB n) ++ []] mo (by decide) V V V V ?_
 refine zV V V (.cons (zY V V Vv) (.cons (zY V V Vv) (.nil))) <| zV V V (.cons (zE0 V V V Vv) (.cons (zE0 V V V Vv) (.nil))) <| dO V V V (zL V V fo57_0 Vv) <| zV V V (.cons (zY V V Vv) (.cons (zY V V Vv) (.nil))) <| zV V V (.cons (zX0 V V V co13 (codeNum_spec n hn (by omega) _)) .nil) ?_
 refine zG1 V V V V (zX0 V V V co38 (write_at h (numB n) (by omega) [])) ?_
 refine zO0 ?_
 exact zT2 (by simp) Tryz.results37 (by rw [zV1]; exact Nat.le_refl _) (cls_pr hcl h.idl h.tl) Vv
theorem _root_.zL3 : type_of% @num_writes := @num_writes
def flatB (k : Int) : Val → Bs
 | .mk n _ s _ _ => if k = 3 then rowB textB s else numB n.toNat
theorem _root_.zV3 : type_of% @Tryz.ntmps19 := @Tryz.ntmps19
theorem _root_.zD3 : type_of% @Tryz.results19 := @Tryz.results19
theorem flat_writes (k : Int) (ins : List Sch) (hk : k = 1 ∨ k = 2 ∨ k = 3) (n m : Int) (s : List Bs) (c : List (List Tk)) (w : List Val) (hn : 0 ≤ n ∧ n < 18446744073709551616) (hsl : s.length ≤ 1000) (hs0 : ∀ x ∈ s, x.length ≤ 1000) (id t : Nat) : Writes 19 id t [.ref id 0, encS (.mk k ins), encV (.mk n m s c w)] (flatB k (.mk n m s c w)) := by
 intro l S h hl
 rcases hk with rfl | rfl | rfl
 ·
  obtain ⟨n, rfl⟩ : ∃ q : Nat, n = (q : Int) := ⟨n.toNat, by omega⟩
  refine zN zS3 V zV3 (zB V) ?_
  refine zS0 fun _ hcl => ?_
  rw [List.append_nil] at hcl
  have hlen' : s.length ≤ maxLen := by simp only [maxLen]; omega
  have hnb := zQ2 9 s.length (by omega)
  refine zA <| qR V <| qB V V V V V <| qB V V V V V <| qN <| zA <| qR V <| qF V V V zM1 <| qO V <| zF0 (by simp [zV1]) V V V ta3 V ?_
  refine qN <| zW <| zA <| zA <| qR V <| qC V V V V V <| qA V V V <| qN <| zX V (V) <| zQ <| zX V (V) <| qR V <| qM V V V <| qF V V V zB4 <| qO V <| zF0 (by simp [zV1]) V V V ta25 V ?_
  refine qX V V V V co37 ((zL3 id t n (by omega)).sl h (by have hl2 : l.length + (numB n).length ≤ 8000000 := hl; omega) _) ?_
  refine qN ?_
  exact zT2 (by simp) zD3 (by rw [zV1]; exact Nat.le_refl _) (cls_pr hcl h.idl h.tl) Vv
 ·
  obtain ⟨n, rfl⟩ : ∃ q : Nat, n = (q : Int) := ⟨n.toNat, by omega⟩
  refine zN zS3 V zV3 (zB V) ?_
  refine zS0 fun _ hcl => ?_
  rw [List.append_nil] at hcl
  have hlen' : s.length ≤ maxLen := by simp only [maxLen]; omega
  have hnb := zQ2 9 s.length (by omega)
  refine zA <| qR V <| qB V V V V V <| qB V V V V V <| qN <| zA <| qR V <| qF V V V zM1 <| qO V <| zF0 (by simp [zV1]) V V V ta3 V ?_
  refine qN <| zW <| zA <| zA <| qR V <| qC V V V V V <| qA V V V <| qN <| zJ V (V) <| qR V <| qC V V V V V <| qA V V V <| qN <| zX V (V) <| qR V <| qM V V V <| qF V V V zB4 <| qO V <| zF0 (by simp [zV1]) V V V ta25 V ?_
  refine qX V V V V co37 ((zL3 id t n (by omega)).sl h (by have hl2 : l.length + (numB n).length ≤ 8000000 := hl; omega) _) ?_
  refine qN ?_
  exact zT2 (by simp) zD3 (by rw [zV1]; exact Nat.le_refl _) (cls_pr hcl h.idl h.tl) Vv
 ·
  obtain ⟨n, rfl⟩ : ∃ q : Nat, n = (q : Int) := ⟨n.toNat, by omega⟩
  refine zN zS3 V zV3 (zB V) ?_
  refine zS0 fun _ hcl => ?_
  rw [List.append_nil] at hcl
  have hlen' : s.length ≤ maxLen := by simp only [maxLen]; omega
  have hnb := zQ2 9 s.length (by omega)
  refine zA <| qR V <| qB V V V V V <| qB V V V V V <| qN <| zA <| qR V <| qF V V V zM1 <| qO V <| zF0 (by simp [zV1]) V V V ta3 V ?_
  refine qN <| zW <| zA <| zA <| qR V <| qC V V V V V <| qA V V V <| qN <| zJ V (V) <| qR V <| qC V V V V V <| qA V V V <| qN <| zJ V (V) <| zA <| zA <| qR V <| qC V V V V V <| qA V V V <| qN <| zX V (V) <| zQ <| zX V (V) <| zA ?_
  refine qR V <| qM V V V <| qF V V V zT1 <| qO V <| zF0 (by simp [zV1]) V V V ta26 V ?_
  refine qE V V zA0 V <| qO V <| zR1 V zZ0 zB1 V (zJ3 (by rw [zH]; omega)) ?_
  rw [zH]
  refine qX V V V V co37 ((zL3 id t s.length (by omega)).sl h (by rw [flatB, if_pos rfl, rowB, zF] at hl; omega) _) ?_
  refine qN <| zA <| qR V <| qF V V V zT1 <| qO V <| zF0 (by simp [zV1]) V V V ta26 V ?_
  refine qE V V zA0 V <| qM V V V <| qN <| zW ?_
  show mwp _ _ _ _ _ _ _ (([] : MS) ++ (pr S id t (l ++ numB s.length) ++ [.cells (encS (.mk 3 ins)).cells, .cells (encV (.mk n m s c w)).cells]))
  refine zD1 (α := Nat) [(0, _), (4, _), (5, _), (61, _), (62, _)] (fun i => [(63, .int .i64 (i : Int))]) (fun i => (pr S id t (l ++ numB s.length ++ (s.take i).flatMap textB) ++ [.cells (encS (.mk 3 ins)).cells, .cells (encV (.mk n m s c w)).cells])) (fun i => i ≤ s.length) (fun i => s.length - i) (0) (.keep V (.keep V (.keep V (.keep V (.keep V (.nil)))))) (.keep V (.nil)) (by omega) (by simp) ?_
  rintro i hi
  show mwp _ _ _ _ _ _ _ (pr S id t (l ++ numB s.length ++ (s.take i).flatMap textB) ++ [.cells (encS (.mk 3 ins)).cells, .cells (encV (.mk n m s c w)).cells])
  have hw := h.pr (l ++ numB s.length ++ (s.take i).flatMap textB)
  have hfl := flat_len hs0 i
  refine zA <| qR V <| qC V V V V V <| qN <| zA ?_
  refine zE V (fun h64 => ?_) (fun h64 => ?_)
  ·
   have hlt : i < s.length := by simpa using h64
   obtain ⟨x, hs⟩ : ∃ q_, s[i]? = some q_ := ⟨_, zD hlt⟩
   refine zQ <| zA <| zW <| zA <| qR V <| qM V V V <| qO V <| zO V zA0 sz9 (by decide) V V V (zE1 hs) ?_
   refine qO V <| zP V V ta9 V <| qA V V V <| qA V V V <| qN <| zA ?_
   have hx := hs0 x (zU hs)
   have hxl := (numB_len (show x.length < 2097152 by omega)).2
   have hxt : (textB x).length = (numB x.length).length + x.length := by simp [textB]
   refine zV0 [5] [_, pr S id t (l ++ numB s.length ++ (s.take (i + 1)).flatMap textB) ++ [.cells (encS (.mk 3 ins)).cells, .cells (encV (.mk n m s c w)).cells]] mo (by decide) V V V V ?_
   refine zV V V (.cons (zY V V Vv) (.cons (zY V V Vv) (.nil))) <| zV V V (.cons (zE0 V V V Vv) (.cons (zE0 V V V Vv) (.nil))) <| dO V V V (zL V V fo57_0 Vv) <| zV V V (.cons (zY V V Vv) (.cons (zY V V Vv) (.nil))) <| zV V V (.cons (zX0 V V V co14 (codeText_spec x (by omega) _)) .nil) ?_
   refine zG1 V V V V (zX0 V V V co38 (((write_at hw (textB x) (by rw [flatB, if_pos rfl, rowB, zF] at hl; simp only [zF]; omega) _).mono fun v σ' hv => ⟨hv.1, hv.2.trans (by rw [pr_pr h, flat_take hs, ← zR])⟩))) ?_
   refine zO0 <| zA <| qR V <| qF V V V zM1 <| qO V <| zF0 (by simp [zV1]) V V V ta3 V ?_
   refine qC V V V V V <| qN <| zJ V (V) <| zQ <| qR V <| qO V <| zU0 V V V V <| qM V V V <| qN ?_
   refine ⟨i + 1, by omega, by omega, rfl, (.keep V (.keep V (.keep V (.keep V (.keep V (.nil)))))), (.eq V (zH1 hlt hlen') (.nil))⟩
  ·
   have hge : i = s.length := by simp at h64; omega
   refine zA1 ?_
   exact zT2 (by simp) zD3 (by rw [zV1]; exact Nat.le_refl _) (cls_pr hcl h.idl h.tl) ⟨rfl, by rw [hge, List.take_length, flatB, if_pos rfl, rowB, zR]⟩
theorem op_boxT' {P : Program} {rd : Option Nat} {o : Oper} {env : Env} {K : MV → MS → Prop} {S L L' : MS} {t k : Nat} {x : Operand} {m : MV} (ho : o.op = .box t x) (hx : evo env x = some m) (hk : L.length = k) (hL : L ++ [.tcells t m.cells] = L') (h : K (.ref (S.length + k) 0) (S ++ L')) : OpWp P rd o env (S ++ L) K := by
 refine op_boxT ho hx ?_
 subst hk; subst hL
 rw [zF, zR]
 exact h
theorem bytes_spec (sc : Sch) (x : Val) (B : Bs) (hok : okV x) (hyes : (isF 16 sc && isVF sc x) = true) (hB : B ≠ []) (hBl : B.length ≤ 8000000) (hw : ∀ id t, Writes 19 id t [.ref id 0, encS sc, encV x] B) (S : MS) : MCalls Tryz.prog 6 [encS sc, encV x] S fun v σ' => v = .str (bs B) ∧ σ' = S := by
 obtain ⟨k, ins⟩ := sc
 obtain ⟨n, m, s, c, w⟩ := x
 refine zN Tryz.func6 V Tryz.ntmps6 (zB V) ?_
 refine zS0 fun _ hcl => ?_
 rw [List.append_nil] at hcl
 refine zA <| qR V <| qB V V V V V <| qB V V V V V <| qA V V V <| qN <| zA <| zA <| qR V <| qL V V V V ta24 V <| qL V V V V ta30 V ?_
 refine qX V V V V co18 (valIs_spec (.mk k ins) (.mk n m s c w) hok _) ?_
 refine qO V <| zL1 V V <| qN <| zJ V (by rw [hyes]; rfl) ?_
 refine zQ <| zA <| qR V <| qO V <| zA2 V Tryz.underlying57 zm57 .nil (by kernel_rfl) ?_
 refine qO V <| op_boxT' (k := 2) V V V V <| qA V V V <| qN <| zA <| mwp_cellrowT 2 1 5 1 V V (Nat.le_refl _) V V ?_
 show mwp _ _ _ _ _ _ _ (S ++ [MObj.cells (encS (.mk k ins)).cells, MObj.cells (encV (.mk n m s c w)).cells, MObj.tcells 57 [.ptr0, .lst (some (S.length + 3)) 1 []], MObj.row 5 1 0])
 have hpa : PrAt (S ++ [MObj.cells (encS (.mk k ins)).cells, MObj.cells (encV (.mk n m s c w)).cells, MObj.tcells 57 [.ptr0, .lst (some (S.length + 3)) 1 []], MObj.row 5 1 0]) (S.length + 2) (S.length + 3) [] := ⟨by omega, ⟨_, .inl rfl, by rw [getElem?_own]; rfl⟩, by rw [getElem?_own]; rfl⟩
 have hpb := hpa.pr B
 obtain ⟨p, hp, hob0⟩ := hpb.ob
 have hrw := hpb.row
 have hob : (pr (S ++ [MObj.cells (encS (.mk k ins)).cells, MObj.cells (encV (.mk n m s c w)).cells, MObj.tcells 57 [.ptr0, .lst (some (S.length + 3)) 1 []], MObj.row 5 1 0]) (S.length + 2) (S.length + 3) B)[S.length + 2]? = some (.tcells 57 [.ref (S.length + 2) 0, .lst (some (S.length + 3)) 1 (B.map encY)]) := by
  unfold pr prO
  exact get_neO (by omega) (by rw [List.getElem?_set_self (by simp)])
 refine qR V <| qM V V V <| qL V V V V ta24 V <| qL V V V V ta30 V ?_
 refine qX V V V V co19 (hw (S.length + 2) (S.length + 3) [] (S ++ [MObj.cells (encS (.mk k ins)).cells, MObj.cells (encV (.mk n m s c w)).cells, MObj.tcells 57 [.ptr0, .lst (some (S.length + 3)) 1 []], MObj.row 5 1 0]) hpa (by simp only [List.length_nil]; omega)) ?_
 refine qN <| zA <| qR V <| qM V V V <| qO V <| zE0 V V V <| qF V V V fo57_0 ?_
 refine qX V V V V co20 (string_spec (S.length + 2) (S.length + 3) B hB (by omega) (pr (S ++ [MObj.cells (encS (.mk k ins)).cells, MObj.cells (encV (.mk n m s c w)).cells, MObj.tcells 57 [.ptr0, .lst (some (S.length + 3)) 1 []], MObj.row 5 1 0]) (S.length + 2) (S.length + 3) B) hob hrw (by omega)) ?_
 refine qA V V V <| qN <| zG ?_
 have hE : (pr (S ++ [MObj.cells (encS (.mk k ins)).cells, MObj.cells (encV (.mk n m s c w)).cells, MObj.tcells 57 [.ptr0, .lst (some (S.length + 3)) 1 []], MObj.row 5 1 0]) (S.length + 2) (S.length + 3) B).set (S.length + 3) .gone = S ++ [.cells (encS (.mk k ins)).cells, .cells (encV (.mk n m s c w)).cells, prO (S.length + 2) (S.length + 3) B, .gone] := by
  unfold pr
  rw [List.set_set, zY3, zY3]
  rfl
 rw [hE]
 exact zK (.inr V) Tryz.results6 V (.refl _) (.str _) Vv
def entB (E : Val → Bs) (p : Bs × Val) : Bs := textB p.1 ++ E p.2
def entsB (E : Val → Bs) (ps : List (Bs × Val)) : Bs := numB ps.length ++ ps.flatMap (entB E)
theorem ents_take {E : Val → Bs} {ps : List (Bs × Val)} {i : Nat} {p : Bs × Val} (h : ps[i]? = some p) : (ps.take (i + 1)).flatMap (entB E) = (ps.take i).flatMap (entB E) ++ textB p.1 ++ E p.2 := by
 rw [List.take_add_one, h, List.flatMap_append]
 simp [entB]
theorem ents_le {E : Val → Bs} {ps : List (Bs × Val)} {i : Nat} {p : Bs × Val} (h : ps[i]? = some p) : ((ps.take i).flatMap (entB E)).length + (textB p.1).length + (E p.2).length ≤ (ps.flatMap (entB E)).length := by
 have h1 : (ps.take (i + 1)).flatMap (entB E) ++ (ps.drop (i + 1)).flatMap (entB E) = ps.flatMap (entB E) := by rw [← List.flatMap_append, List.take_append_drop]
 have h2 := congrArg List.length h1
 rw [ents_take h] at h2
 simp only [zF] at h2
 omega
theorem map_writes (k1 : Int) (i1 : List Sch) (E : Val → Bs) (n m : Int) (c : List (List Tk)) (ps : List (Bs × Val)) (id t : Nat) (hpl : ps.length ≤ 1000) (hps : ∀ p ∈ ps, p.1.length ≤ 1000) (hE : ∀ p ∈ ps, Writes 19 id t [.ref id 0, encS (.mk k1 i1), encV p.2] (E p.2)) : Writes 19 id t [.ref id 0, encS (.mk 4 [.mk k1 i1]), encV (.mk n m (ps.map Prod.fst) c (ps.map Prod.snd))] (entsB E ps) := by
 intro l S h hl
 refine zN zS3 V zV3 (zB V) ?_
 refine zS0 fun _ hcl => ?_
 rw [List.append_nil] at hcl
 have hlen' : ps.length ≤ maxLen := by simp only [maxLen]; omega
 have hnb := zQ2 9 ps.length (by omega)
 rw [entsB, zF] at hl
 refine zA <| qR V <| qB V V V V V <| qB V V V V V <| qN <| zA <| qR V <| qF V V V zM1 <| qO V <| zF0 (by simp [zV1]) V V V ta3 V ?_
 refine qN <| zW <| zA <| zA <| qR V <| qC V V V V V <| qA V V V <| qN <| zJ V (V) <| qR V <| qC V V V V V <| qA V V V <| qN <| zJ V (V) <| zA <| zA <| qR V <| qC V V V V V <| qA V V V <| qN <| zJ V (V) <| qR V <| qC V V V V V ?_
 refine qA V V V <| qN <| zX V (V) <| zA <| qR V <| qM V V V <| qF V V V zT1 <| qO V <| zF0 (by simp [zV1]) V V V ta26 V ?_
 refine qE V V zA0 V <| qO V <| zR1 V zZ0 zB1 V (zJ3 (by rw [zH, zH]; omega)) ?_
 rw [zH, zH]
 refine qX V V V V co37 ((zL3 id t ps.length (by omega)).sl h (by omega) _) ?_
 refine qN <| zA <| qR V <| qF V V V zT1 <| qO V <| zF0 (by simp [zV1]) V V V ta26 V ?_
 refine qE V V zA0 V <| qM V V V <| qN <| zW ?_
 show mwp _ _ _ _ _ _ _ (([] : MS) ++ (pr S id t (l ++ numB ps.length) ++ [.cells (encS (.mk 4 [.mk k1 i1])).cells, .cells (encV (.mk n m (ps.map Prod.fst) c (ps.map Prod.snd))).cells]))
 refine zD1 (α := Nat) [(0, _), (4, _), (5, _), (61, _), (62, _)] (fun i => [(63, .int .i64 (i : Int))]) (fun i => (pr S id t (l ++ numB ps.length ++ (ps.take i).flatMap (entB E)) ++ [.cells (encS (.mk 4 [.mk k1 i1])).cells, .cells (encV (.mk n m (ps.map Prod.fst) c (ps.map Prod.snd))).cells])) (fun i => i ≤ ps.length) (fun i => ps.length - i) (0) (.keep V (.keep V (.keep V (.keep V (.keep V (.nil)))))) (.keep V (.nil)) (by omega) (by simp) ?_
 rintro i hi
 show mwp _ _ _ _ _ _ _ (pr S id t (l ++ numB ps.length ++ (ps.take i).flatMap (entB E)) ++ [.cells (encS (.mk 4 [.mk k1 i1])).cells, .cells (encV (.mk n m (ps.map Prod.fst) c (ps.map Prod.snd))).cells])
 have hw := h.pr (l ++ numB ps.length ++ (ps.take i).flatMap (entB E))
 refine zA <| qR V <| qC V V V V V <| qN <| zA ?_
 refine zE V (fun h64 => ?_) (fun h64 => ?_)
 ·
  rw [zH, zH] at h64
  have hlt : i < ps.length := by simpa using h64
  obtain ⟨⟨x, ⟨n9, m9, s9, c9, w9⟩⟩, hs⟩ : ∃ q_, ps[i]? = some q_ := ⟨_, zD hlt⟩
  have hpm := zU hs
  have hx := hps _ hpm
  dsimp only at hx
  have hle := ents_le (E := E) hs
  dsimp only at hle
  have hxl := (numB_len (show x.length < 2097152 by omega)).2
  have hxt : (textB x).length = (numB x.length).length + x.length := by simp [textB]
  have hgx : ((ps.map Prod.fst).map encX)[i]? = some (encX x) := by rw [zJ1, zJ1, hs]; rfl
  have hgw : (encVs (ps.map Prod.snd))[i]? = some (encV (.mk n9 m9 s9 c9 w9)) := by rw [encVs_eq, zJ1, zJ1, hs]; rfl
  refine zQ <| zA <| zW <| zA <| qR V <| qM V V V <| qO V <| zO V zA0 sz9 (by decide) V V V hgx ?_
  refine qO V <| zP V V ta9 V <| qA V V V <| qA V V V <| qN <| zA ?_
  refine zV0 [5] [_, pr S id t (l ++ numB ps.length ++ (ps.take i).flatMap (entB E) ++ textB x) ++ [.cells (encS (.mk 4 [.mk k1 i1])).cells, .cells (encV (.mk n m (ps.map Prod.fst) c (ps.map Prod.snd))).cells]] mo (by decide) V V V V ?_
  refine zV V V (.cons (zY V V Vv) (.cons (zY V V Vv) (.nil))) <| zV V V (.cons (zE0 V V V Vv) (.cons (zE0 V V V Vv) (.nil))) <| dO V V V (zL V V fo57_0 Vv) <| zV V V (.cons (zY V V Vv) (.cons (zY V V Vv) (.nil))) <| zV V V (.cons (zX0 V V V co14 (codeText_spec x (by omega) _)) .nil) ?_
  refine zG1 V V V V (zX0 V V V co38 (((write_at hw (textB x) (by simp only [zF]; omega) _).mono fun v σ' hv => ⟨hv.1, hv.2.trans (by rw [pr_pr h])⟩))) ?_
  refine zO0 <| zA <| qR V <| qF V V V zM1 <| qO V <| zF0 (by simp [zV1]) V V V ta3 V ?_
  refine qC V V V V V <| qN <| zX V (V) ?_
  refine zV0 [10] [_, pr S id t (l ++ numB ps.length ++ (ps.take i).flatMap (entB E) ++ textB x ++ E (.mk n9 m9 s9 c9 w9)) ++ [.cells (encS (.mk 4 [.mk k1 i1])).cells, .cells (encV (.mk n m (ps.map Prod.fst) c (ps.map Prod.snd))).cells]] mo (by decide) V V V V ?_
  refine dO V V V (zY V V Vv) <| zV V V (.cons (zL V V zC2 Vv) (.cons (zL V V zC2 Vv) (.nil))) <| zV V V (.cons (zF0 (by simp [zV1]) V V V ta22 V Vv) (.cons (zF0 (by simp [zV1]) V V V ta22 V Vv) (.nil))) ?_
  refine zV V V (.cons (zO V zD0 sz24 (by decide) V V V (show _ = some (encS (.mk k1 i1)) from V) Vv) (.cons (zO V zD0 sz24 (by decide) V V V (show _ = some (encS (.mk k1 i1)) from V) Vv) (.nil))) ?_
  refine dO V V V (zP V V ta24 V Vv) <| zV V V (.cons (zL V V zO1 Vv) (.cons (zL V V zO1 Vv) (.nil))) <| zV V V (.cons (zF0 (by simp [zV1]) V V V ta28 V Vv) (.cons (zF0 (by simp [zV1]) V V V ta28 V Vv) (.nil))) ?_
  refine zV V V (.cons (zY V V Vv) (.cons (zY V V Vv) (.nil))) <| zV V V (.cons (zO V zT sz30 (by decide) V V V hgw Vv) (.cons (zO V zT sz30 (by decide) V V V hgw Vv) (.nil))) ?_
  refine dO V V V (zP V V ta30 V Vv) ?_
  refine zG1 V V V V (zX0 V V V co19 ((((hE _ hpm).sl (h.pr (l ++ numB ps.length ++ (ps.take i).flatMap (entB E) ++ textB x)) (by simp only [zF]; omega) _).mono fun v σ' hv => ⟨hv.1, hv.2.trans (by rw [pr_pr h])⟩))) ?_
  refine zO0 <| qR V <| qO V <| zU0 V V V V <| qM V V V <| qN ?_
  refine ⟨i + 1, by omega, by omega, by rw [ents_take hs]; simp only [zR, List.nil_append], (.keep V (.keep V (.keep V (.keep V (.keep V (.nil)))))), (.eq V (zH1 hlt hlen') (.nil))⟩
 ·
  rw [zH, zH] at h64
  have hge : i = ps.length := by simp at h64; omega
  refine zA1 ?_
  exact zT2 (by simp) zD3 (by rw [zV1]; exact Nat.le_refl _) (cls_pr hcl h.idl h.tl) ⟨rfl, by rw [hge, List.take_length, entsB, zR]⟩
def tkB (t : Tk) : Bs := numB t.1.toNat ++ numB t.2.toNat
def okW (t : Tk) : Prop := (0 ≤ t.1 ∧ t.1 < 9223372036854775808) ∧ 0 ≤ t.2 ∧ t.2 < 18446744073709551616
theorem tkB_len {t : Tk} (h : okW t) : (tkB t).length ≤ 20 := by
 have h1 := zQ2 9 t.1.toNat (by have := h.1; omega)
 have h2 := zQ2 9 t.2.toNat (by have := h.2; omega)
 rw [tkB, zF]
 omega
theorem tks_len {c : List Tk} (h : ∀ t ∈ c, okW t) : ∀ i, ((c.take i).flatMap tkB).length ≤ i * 20
 | 0 => by simp
 | i + 1 => by
  have ih := tks_len h i
  rw [List.take_add_one, List.flatMap_append, zF]
  cases hs : c[i]? with
  | none => simp only [Option.toList_none, List.flatMap_nil, List.length_nil]; omega
  | some x =>
   have := tkB_len (h x (zU hs))
   simp only [Option.toList_some, List.flatMap_cons, List.flatMap_nil, List.append_nil]
   omega
theorem tks_take {c : List Tk} {i : Nat} {x : Tk} (h : c[i]? = some x) : (c.take (i + 1)).flatMap tkB = (c.take i).flatMap tkB ++ tkB x := by
 rw [List.take_add_one, h, List.flatMap_append]
 simp
theorem clock_writes (c : List Tk) (hc : c.length ≤ 1000) (hc0 : ∀ t ∈ c, okW t) (id t : Nat) (l : Bs) (S : MS) (h : PrAt S id t l) (hl : l.length ≤ 8000000) : MCalls Tryz.prog 39 [.ref id 0, encC c] S fun v σ' => v = .tup [] ∧ σ' = pr S id t (l ++ rowB tkB c) := by
 refine zN Tryz.func39 V Tryz.ntmps39 (zB V) ?_
 refine zS0 fun _ hcl => ?_
 rw [List.append_nil] at hcl
 have hlen' : c.length ≤ maxLen := by simp only [maxLen]; omega
 have hnb := zQ2 9 c.length (by omega)
 refine zA <| qR V <| qM V V V <| qM V V V <| qE V V zM V <| qO V <| zR1 V zZ0 zB1 V (zJ3 (by rw [zH]; omega)) ?_
 rw [zH]
 refine qX V V V V co37 ((zL3 id t c.length (by omega)).sl h (by omega) []) ?_
 refine qN <| zA <| qR V <| qM V V V <| qE V V zM V <| qM V V V <| qN <| zW ?_
 show mwp _ _ _ _ _ _ _ (([] : MS) ++ (pr S id t (l ++ numB c.length) ++ []))
 refine zD1 (α := Nat × MS) [(0, _), (11, _), (12, _)] (fun x => [(13, .int .i64 (x.1 : Int))]) (fun x => (pr S id t (l ++ numB c.length ++ (c.take x.1).flatMap tkB) ++ x.2)) (fun x => x.1 ≤ c.length) (fun x => c.length - x.1) (⟨0, []⟩) (.keep V (.keep V (.keep V (.nil)))) (.keep V (.nil)) (by simp) (by simp) ?_
 rintro ⟨i, J⟩ hi
 dsimp only at hi ⊢
 show mwp _ _ _ _ _ _ _ (pr S id t (l ++ numB c.length ++ (c.take i).flatMap tkB) ++ J)
 have hw := h.pr (l ++ numB c.length ++ (c.take i).flatMap tkB)
 have hfl := tks_len hc0 i
 have hpl : (l ++ numB c.length ++ (c.take i).flatMap tkB).length ≤ 20020 + l.length := by simp only [zF]; omega
 refine zA <| qR V <| qC V V V V V <| qN <| zA ?_
 refine zE V (fun h14 => ?_) (fun h14 => ?_)
 ·
  have hlt : i < c.length := by simpa using h14
  obtain ⟨⟨a, b⟩, hs⟩ : ∃ q_, c[i]? = some q_ := ⟨_, zD hlt⟩
  refine zQ <| zA <| zW <| zA ?_
  have hab := hc0 _ (zU hs)
  obtain ⟨ha1, ha2⟩ := hab
  dsimp only at ha1 ha2
  have hn1 := zQ2 9 a.toNat (by omega)
  have hn2 := zQ2 9 b.toNat (by omega)
  refine qR V <| qO V <| zO V zM sz87 (by decide) V V V (zE1 hs) ?_
  refine qO V <| zP V V ta87 V <| qO V <| op_alloc V zm87 <| qO V <| op_store_last V V V sz87 V V (zB V) <| qN <| zA <| qR V ?_
  rw [zR (pr S id t _)]
  refine qM V V V <| qF V V V zQ3 <| qO V <| zR0 (l := [.int .i64 a, .int .u64 b]) V V (by rw [← zR]; exact zH5 (by simp [zV1])) ta3 V ?_
  refine qO V <| zR1 V zZ0 zB1 V (zJ3 (by omega)) ?_
  rw [show a = ((a.toNat : Nat) : Int) by omega]
  refine qX V V V V co37 ((zL3 id t a.toNat (by omega)).sl hw (by omega) (J ++ [_])) ?_
  rw [pr_pr h]
  refine qN <| qR V <| qM V V V <| qF V V V zA5 <| qO V <| zR0 (l := [.int .i64 ((a.toNat : Nat) : Int), .int .u64 b]) V V (by rw [← zR]; exact zH5 (by simp [zV1])) ta25 V ?_
  rw [show b = ((b.toNat : Nat) : Int) by omega]
  refine qX V V V V co37 ((zL3 id t b.toNat (by omega)).sl (h.pr (l ++ numB c.length ++ (c.take i).flatMap tkB ++ numB a.toNat)) (by rw [zF]; omega) (J ++ [_])) ?_
  rw [pr_pr h]
  refine qN <| qR V <| qO V <| zU0 V V V V <| qM V V V <| qN ?_
  refine ⟨⟨i + 1, J ++ [_]⟩, by dsimp only; omega, by dsimp only; omega, by rw [tks_take hs, tkB]; simp only [zR, List.nil_append]; rfl, (.keep V (.keep V (.keep V (.nil)))), (.eq V (zH1 hlt hlen') (.nil))⟩
 ·
  have hge : i = c.length := by simp at h14; omega
  refine zA1 ?_
  exact zT2 (by simp) Tryz.results39 (by rw [zV1]; exact Nat.le_refl _) (cls_pr hcl h.idl h.tl) ⟨rfl, by rw [hge, List.take_length, rowB, zR]⟩
theorem get_neK {S : MS} {i k : Nat} {o p : MObj} (hne : i ≠ k) (h : S[k]? = some p) : (S.set i o)[k]? = some p := by rw [List.getElem?_set_ne hne]; exact h
def lastM (r : RdS) : Val × RdS :=
 if (numM r).1 = 0 then (noV, (numM r).2)
 else if (numM r).1 = 1 then (.mk ((numM (numM r).2).1 : Int) ((numM (numM (numM r).2).2).1 : Int) [(textM (numM (numM (numM r).2).2).2).1] [] [], (textM (numM (numM (numM r).2).2).2).2)
 else (noV, failR 10 (numM r).2)
def oneClockM (r : RdS) : Val × RdS := (.mk 0 0 [] (if (clockM r).1.length = 0 then [] else [(clockM r).1]) [], (clockM r).2)
def entM (M : RdS → Val × RdS) (r : RdS) (c : List Bs) : Val × RdS × List Bs := ((M (textM r).2).1, (M (textM r).2).2, c ++ [(textM r).1])
def sibM (M : RdS → Val × RdS) (r : RdS) (c : List (List Tk)) : Val × RdS × List (List Tk) := ((M (clockM r).2).1, (M (clockM r).2).2, c ++ [(clockM r).1])
def pairM (M N : RdS → Val × RdS) (r : RdS) : Val × RdS := (.mk 0 0 [] [] [(M r).1, (N (M r).2).1], (N (M r).2).2)
def mapM (M : RdS → Val × RdS) (r : RdS) : Val × RdS := (.mk 0 0 (rowC (entM M) r []).2.2 [] (rowC (entM M) r []).1, (rowC (entM M) r []).2.1)
def sibsM (M : RdS → Val × RdS) (r : RdS) : Val × RdS := (.mk 0 0 [] (rowC (sibM M) r []).2.2 (rowC (sibM M) r []).1, (rowC (sibM M) r []).2.1)
def kindM (k : Int) (fs : List (RdS → Val × RdS)) : RdS → Val × RdS :=
 if k = 1 ∨ k = 2 ∨ k = 3 then flatM k else if k = 4 then mapM (fs.headD lastM) else if k = 5 then pairM (fs.headD lastM) (fs.tail.headD lastM) else if k = 6 then lastM else if k = 7 then oneClockM else sibsM (fs.headD lastM)
mutual
def valueM : Sch → RdS → Val × RdS
 | .mk k ins => kindM k (valueMs ins)
def valueMs : List Sch → List (RdS → Val × RdS)
 | [] => []
 | s :: l => valueM s :: valueMs l
end
theorem clockM_len (r : RdS) : (clockM r).2.1.length ≤ r.1.length := rowM_len tickM_len r
theorem last_reads (id : Nat) : Reads 47 [.ref id 0] id encV lastM := by
 intro r S h hlen
 have hn1 := zV2 r
 have hn2 := zV2 (numM r).2
 have hn3 := zV2 (numM (numM r).2).2
 refine zN Tryz.func47 V Tryz.ntmps47 (zB V) ?_
 refine zS0 fun _ hcl => ?_
 have hcl0 := hcl
 rw [List.append_nil] at hcl
 refine zA <| qR V <| qO V <| zH0 V zm30 V V <| qN <| zA <| zA <| qR V <| qM V V V ?_
 refine qX V V V V co42 ((zU2 id).sl h hlen) ?_
 refine qA V V V <| qN <| zA <| qR V <| qM V V V <| qN <| zW <| zA <| qR V <| qC V V V V V <| qA V V V <| qN ?_
 refine zE V (fun h7 => ?_) (fun h7 => ?_)
 ·
  have h0 : (numM r).1 = 0 := by simp at h7; omega
  refine zA <| qR V <| qO V <| zA2 V zU1 zm30 .nil (by kernel_rfl) ?_
  refine qO V <| zY0 (by simp) V V V V sz30 V V (zB V) V ?_
  refine qN <| zG ?_
  exact zB2 (y := encV noV) (by simp) (.inr V) Tryz.results47 V V ta30 V (.agg (.cons (.refl _) (.cons (.refl _) (.cons (.nil 1) (.cons (.nil 1) (.cons (.nil 5) .nil)))))) (zG2 _ _) (hcl.set (zG3 _ _)) ⟨by rw [lastM, if_pos h0], by rw [lastM, if_pos h0]⟩
 ·
  have h0 : ¬ (numM r).1 = 0 := by simp at h7; omega
  refine zA <| qR V <| qC V V V V V <| qA V V V <| qN ?_
  refine zE V (fun h10 => ?_) (fun h10 => ?_)
  ·
   have h1 : (numM r).1 = 1 := by simp at h10; omega
   refine zA <| qR V <| qM V V V ?_
   refine qX V V V V co42 ((zU2 id).sl (r := (numM r).2) (zE3 h) (by omega)) ?_
   rw [zI3]
   refine qM V V V ?_
   refine qX V V V V co42 ((zU2 id).sl (r := (numM (numM r).2).2) (zE3 h) (by omega)) ?_
   rw [zI3]
   refine qM V V V ?_
   refine qX V V V V co44 ((text_reads id).sl (r := (numM (numM (numM r).2).2).2) (zE3 h) (by omega)) ?_
   rw [zI3]
   refine qO V <| zI1 V zA0 el9 V V (by decide) (by decide) V V ?_
   refine qO V <| zA2 V zU1 zm30 (.cons zB4 sz25 V V (zB V) (.cons zX4 sz25 V V (zB V) (.cons zT1 sz26 V V (zB V) .nil))) (by kernel_rfl) ?_
   refine qO V <| zY0 (by simp) V V V V sz30 V V (zB V) V ?_
   refine qN <| zG ?_
   exact zB2 (y := encV (.mk ((numM (numM r).2).1 : Int) ((numM (numM (numM r).2).2).1 : Int) [(textM (numM (numM (numM r).2).2).2).1] [] [])) (by simp) (.inr V) Tryz.results47 V V ta30 V (.agg (.cons (.refl _) (.cons (.refl _) (.cons (.refl _) (.cons (.nil 1) (.cons (.nil 5) .nil)))))) (zG2 _ _) (hcl.set (zG3 _ _)) ⟨by rw [lastM, if_neg h0, if_pos h1], by rw [lastM, if_neg h0, if_pos h1]⟩
  ·
   have h1 : ¬ (numM r).1 = 1 := by simp at h10; omega
   refine zQ <| zA <| qR V <| qM V V V ?_
   refine qX V V V V co24 (zK2 id (numM r).2 _ _ (zE3 h) _) ?_
   rw [zI3]
   refine qN <| zA <| qR V <| qO V <| zA2 V zU1 zm30 .nil (by kernel_rfl) ?_
   refine qO V <| zY0 (by simp) V V V V sz30 V V (zB V) V ?_
   refine qN <| zG ?_
   exact zB2 (y := encV noV) (by simp) (.inr V) Tryz.results47 V V ta30 V (.agg (.cons (.refl _) (.cons (.refl _) (.cons (.nil 1) (.cons (.nil 1) (.cons (.nil 5) .nil)))))) (zG2 _ _) (hcl.set (zG3 _ _)) ⟨by rw [lastM, if_neg h0, if_neg h1], by rw [lastM, if_neg h0, if_neg h1]⟩
def ReadsIn {α : Type} (K : MS → Prop) (k : FuncId) (xs : List MV) (id : Nat) (en : α → MV) (M : RdS → α × RdS) : Prop := ∀ (r : RdS) (S : MS), K S → S[id]? = some (rdO r) → r.1.length ≤ 8000000 → MCalls Tryz.prog k xs S fun v σ' => v = en (M r).1 ∧ σ' = S.set id (rdO (M r).2)
theorem one_reads (k k1 : Int) (i1 rest : List Sch) (M : RdS → Val × RdS) (id rb sb : Nat) (hM : Reads 23 [.ref id 0, encS (.mk k1 i1)] id encV M) : ReadsIn (fun S => S[rb]? = some (.cells [.ref id 0]) ∧ S[sb]? = some (.cells [.int .i64 k, .lst none 2 (encSs (.mk k1 i1 :: rest))])) 41 ([] ++ [] ++ [.ref rb 0, .ref sb 0]) id encV M := by
 rintro r S ⟨hR, hS⟩ h hlen
 obtain ⟨q, hq⟩ : ∃ q, M r = q := ⟨_, rfl⟩
 obtain ⟨⟨n, m, s, c, w⟩, r1⟩ := q
 have hv := fun L => hM.sl (L := L) h hlen
 simp only [hq] at hv ⊢
 have hneR : id ≠ rb := fun e => by subst e; rw [h] at hR; simp [rdO] at hR
 have hneS : id ≠ sb := fun e => by subst e; rw [h] at hS; simp [rdO] at hS
 refine zN Tryz.func41 V Tryz.ntmps41 (zB V) ?_
 refine zS0 fun _ hcl => ?_
 have hcl0 := hcl
 rw [List.append_nil] at hcl
 refine zA <| qR V <| qO V <| zH0 V zm30 V V <| qN <| zA ?_
 refine zV0 [5, 6] [_, S.set id (rdO r1) ++ [.cells [.int .u64 0, .int .u64 0, .lst0, .lst0, .lst0]], S.set id (rdO r1) ++ [.cells (encV (.mk n m s c w)).cells]] mo (by decide) V V V V ?_
 refine dO V V V (zQ1 V V (by first | exact hR | exact get_neK hneR hR) ta60 V Vv) ?_
 refine zV V V (.cons (zL V V zC2 Vv) (.cons (zL V V zC2 Vv) (.nil))) <| zV V V (.cons (zQ1 V V (by first | exact hS | exact get_neK hneS hS) ta22 V Vv) (.cons (zQ1 V V (by first | exact hS | exact get_neK hneS hS) ta22 V Vv) (.nil))) ?_
 refine zV V V (.cons (zO V zD0 sz24 (by decide) V V V (show _ = some (encS (.mk k1 i1)) from V) Vv) (.cons (zO V zD0 sz24 (by decide) V V V (show _ = some (encS (.mk k1 i1)) from V) Vv) (.nil))) ?_
 refine dO V V V (zP V V ta24 V Vv) <| zG1 V V V V (zX0 V V V co23 (hv _)) <| zG1 V V V V (zY0 (by simp) V V V V sz30 V V (zB V) V Vv) ?_
 refine zO0 <| zG ?_
 exact zB2 (y := encV (.mk n m s c w)) (by simp) (.inr V) Tryz.results41 V V ta30 V (.refl _) (zG2 _ _) (hcl.set (zG3 _ _)) Vv
section
def z5 : List MV := [.int .u64 0, .int .u64 0, .lst0, .lst0, .lst0]
abbrev fOne (S : MS) : MV := .fn (.func 41) [] [.ref (S.length + 0) 0, .ref (S.length + 1) 0]
abbrev vM (S : MS) (a : List MV) : List MV := [.int .u64 0, .int .u64 0, .lst (some (S.length + 5)) 1 a, .lst0, .lst0]
abbrev vS (S : MS) (a : List MV) : List MV := [.int .u64 0, .int .u64 0, .lst0, .lst (some (S.length + 5)) 1 a, .lst0]
abbrev obJ (S : MS) (id : Nat) (k : Int) (ss : List Sch) (v : List MV) (ty n : Nat) : MS := [.cells [.ref id 0], .cells [.int .i64 k, .lst none 2 (encSs ss)], .cells z5, .cells v, .cells [fOne S], .row ty 1 n]
def sT (S : MS) (id : Nat) (k : Int) (ss : List Sch) (ty : Nat) (r : RdS) (v : List MV) (n : Nat) : MS := S.set id (rdO r) ++ obJ S id k ss v ty n
section
variable {S : MS} {id ty : Nat} {k : Int} {ss : List Sch} {r : RdS} {v : List MV} {n : Nat}
theorem sT_len : (sT S id k ss ty r v n).length = S.length + 6 := by simp [sT]
theorem sT_get {L : MS} {j : Nat} {o : MObj} (h : (obJ S id k ss v ty n)[j]? = some o) : (sT S id k ss ty r v n ++ L)[S.length + j]? = some o := by
 rw [List.getElem?_append_left (by rw [sT_len]; have := (zI.1 h).1; simp at this; omega), sT, own_getS (by simp)]
 exact h
theorem _root_.zZ4 : type_of% @sT_get := @sT_get
theorem sT_rd {r0 : RdS} (hid : S[id]? = some (rdO r0)) : (sT S id k ss ty r v n)[id]? = some (rdO r) := zO3 (zE3 hid)
theorem sT_set {r0 r' : RdS} (hid : S[id]? = some (rdO r0)) : (sT S id k ss ty r v n).set id (rdO r') = sT S id k ss ty r' v n := by
 unfold sT
 rw [List.set_append_left _ _ (by simpa using (zI.1 hid).1), zI3]
theorem sT_v {L : MS} {v' : List MV} : (sT S id k ss ty r v n ++ L).set (S.length + 3) (.cells v') = sT S id k ss ty r v' n ++ L := by
 rw [List.set_append_left _ _ (by rw [sT_len]; omega)]
 unfold sT
 rw [own_setS (by simp)]
 rfl
theorem sT_row {L : MS} {n' : Nat} : (sT S id k ss ty r v n ++ L).set (S.length + 5) (.row ty 1 n') = sT S id k ss ty r v n' ++ L := by
 rw [List.set_append_left _ _ (by rw [sT_len]; omega)]
 unfold sT
 rw [own_setS (by simp)]
 rfl
end
theorem ent_one (s1 : Sch) (rest : List Sch) {S : MS} {id : Nat} {r0 : RdS} (hid : S[id]? = some (rdO r0)) {M : RdS → Val × RdS} (hOne : ReadsIn (fun S' => S'[S.length + 0]? = some (.cells [.ref id 0]) ∧ S'[S.length + 1]? = some (.cells [.int .i64 4, .lst none 2 (encSs (s1 :: rest))])) 41 ([] ++ [] ++ [.ref (S.length + 0) 0, .ref (S.length + 1) 0]) id encV M)
  (hcls : ∀ r' (c' : List (Bs)) (L : MS) {r c}, ClS (sT S id 4 (s1 :: rest) 9 r (vM S ((c : List (Bs)).map encX)) c.length ++ L) → ClS (sT S id 4 (s1 :: rest) 9 r' (vM S (c'.map encX)) c'.length ++ L)) (r : RdS) (c : List (Bs)) (L : MS) (hlen : r.1.length ≤ 8000000) (hc40 : c.length ≤ 1000) :
  MCalls Tryz.prog 46 ([] ++ [] ++ [.ref (S.length + 3) 0, .ref (S.length + 0) 0, .ref (S.length + 4) 0]) (sT S id 4 (s1 :: rest) 9 r (vM S (c.map encX)) c.length ++ L) fun v σ' => v = encV (entM M r c).1 ∧ σ' = sT S id 4 (s1 :: rest) 9 (entM M r c).2.1 (vM S ((entM M r c).2.2.map encX)) (entM M r c).2.2.length ++ L := by
 have hml := textM_len r
 refine zN Tryz.func46 V Tryz.ntmps46 (zB V) ?_
 refine zS0 fun _ hcl => ?_
 rw [List.append_nil] at hcl
 refine zA <| qR V <| qO V <| zH0 V zm30 V V <| qN <| zA ?_
 refine zV0 [3, 5, 7] [_, (sT S id 4 (s1 :: rest) 9 (textM r).2 (vM S (c.map encX)) c.length ++ L) ++ [.cells z5], (sT S id 4 (s1 :: rest) 9 (textM r).2 (vM S (c.map encX)) (c.length + 1) ++ L) ++ [.cells z5], (sT S id 4 (s1 :: rest) 9 (textM r).2 (vM S (c.map encX ++ [encX (textM r).1])) (c.length + 1) ++ L) ++ [.cells z5]] mo (by decide) V V V V ?_
 refine zV V V (.cons (zL V V zT1 Vv) (.cons (zL V V zT1 Vv) (.cons (zL V V zT1 Vv) (.nil)))) <| zV V V (.cons (zR0 V V (by rw [zR]; exact zZ4 V) ta26 V Vv) (.cons (zR0 V V (by rw [zR]; exact zZ4 V) ta26 V Vv) (.nil))) ?_
 refine dO V V V (zR0 V V (by rw [zR]; exact zZ4 V) ta60 V Vv) ?_
 refine zG1 V V V V (zX0 V V V co44 (((text_reads id).sl (S := sT S id 4 (s1 :: rest) 9 r (vM S (c.map encX)) c.length ++ L) (L := [.cells z5]) (zO3 (sT_rd hid)) hlen).mono fun v σ' hv => ⟨hv.1, hv.2.trans (by rw [set_sl (sT_rd hid), sT_set hid])⟩)) ?_
 refine dO V V V (zI1 V zA0 el9 V V (by decide) (by decide) V V Vv) ?_
 refine zG1 V V V V (zR4 V zA0 el9 V V (by rw [zR]; exact zZ4 V) (by simp) (by simp; omega) (by simp; omega) ⟨rfl, by rw [zR, sT_row, zR]; rfl⟩) ?_
 refine dO V V V (zL V V zT1 Vv) <| zG1 V V V V (zZ3 V V V (by rw [zR]; exact zZ4 V) sz26 V V (zB V) ⟨rfl, by rw [zR, sT_v, zR]; rfl⟩) ?_
 refine zO0 <| zA <| qR V <| qO V <| zR0 V V (by rw [zR]; exact zZ4 V) ta81 V ?_
 refine qX V V V V co41 (hOne ((textM r).2) (sT S id 4 (s1 :: rest) 9 (textM r).2 (vM S (c.map encX ++ [encX (textM r).1])) (c.length + 1) ++ L ++ [.cells z5]) ⟨by rw [zR]; exact zZ4 rfl, by rw [zR]; exact zZ4 rfl⟩ (zO3 (zO3 (sT_rd hid))) (by omega)) ?_
 rw [set_sl (zO3 (sT_rd hid)), set_sl (sT_rd hid), sT_set hid]
 obtain ⟨⟨n0, m0, s0, c0, w0⟩, hq⟩ : ∃ q, q = (M (textM r).2).1 := ⟨_, rfl⟩
 rw [← hq]
 refine qO V <| zY0 (S1 := sT S id 4 (s1 :: rest) 9 (M (textM r).2).2 (vM S (c.map encX ++ [encX (textM r).1])) (c.length + 1) ++ L) (by simp [sT_len]) V V V V sz30 V V (zB V) V ?_
 refine qN <| zG ?_
 have e1 : c.map encX ++ [encX (textM r).1] = (c ++ [(textM r).1]).map encX := by rw [List.map_append]; rfl
 have e2 : c.length + 1 = (c ++ [(textM r).1]).length := by simp
 exact zB2 (y := encV (.mk n0 m0 s0 c0 w0)) (by simp [sT_len]) (.inr V) Tryz.results46 V V ta30 V (.refl _) (zG2 _ _) (by
   have h7 := hcls (M (textM r).2).2 (c ++ [(textM r).1]) L hcl
   rwa [← e1, ← e2] at h7) ⟨by rw [entM, hq], by rw [entM, ← e1, ← e2]⟩
theorem sib_one (s1 : Sch) (rest : List Sch) {S : MS} {id : Nat} {r0 : RdS} (hid : S[id]? = some (rdO r0)) {M : RdS → Val × RdS} (hOne : ReadsIn (fun S' => S'[S.length + 0]? = some (.cells [.ref id 0]) ∧ S'[S.length + 1]? = some (.cells [.int .i64 8, .lst none 2 (encSs (s1 :: rest))])) 41 ([] ++ [] ++ [.ref (S.length + 0) 0, .ref (S.length + 1) 0]) id encV M)
  (hcls : ∀ r' (c' : List (List Tk)) (L : MS) {r c}, ClS (sT S id 8 (s1 :: rest) 68 r (vS S ((c : List (List Tk)).map encC)) c.length ++ L) → ClS (sT S id 8 (s1 :: rest) 68 r' (vS S (c'.map encC)) c'.length ++ L)) (r : RdS) (c : List (List Tk)) (L : MS) (hlen : r.1.length ≤ 8000000) (hc40 : c.length ≤ 1000) :
  MCalls Tryz.prog 49 ([] ++ [] ++ [.ref (S.length + 3) 0, .ref (S.length + 0) 0, .ref (S.length + 4) 0]) (sT S id 8 (s1 :: rest) 68 r (vS S (c.map encC)) c.length ++ L) fun v σ' => v = encV (sibM M r c).1 ∧ σ' = sT S id 8 (s1 :: rest) 68 (sibM M r c).2.1 (vS S ((sibM M r c).2.2.map encC)) (sibM M r c).2.2.length ++ L := by
 have hml := clockM_len r
 refine zN Tryz.func49 V Tryz.ntmps49 (zB V) ?_
 refine zS0 fun _ hcl => ?_
 rw [List.append_nil] at hcl
 refine zA <| qR V <| qO V <| zH0 V zm30 V V <| qN <| zA ?_
 refine zV0 [3, 5, 7] [_, (sT S id 8 (s1 :: rest) 68 (clockM r).2 (vS S (c.map encC)) c.length ++ L) ++ [.cells z5], (sT S id 8 (s1 :: rest) 68 (clockM r).2 (vS S (c.map encC)) (c.length + 1) ++ L) ++ [.cells z5], (sT S id 8 (s1 :: rest) 68 (clockM r).2 (vS S (c.map encC ++ [encC (clockM r).1])) (c.length + 1) ++ L) ++ [.cells z5]] mo (by decide) V V V V ?_
 refine zV V V (.cons (zL V V zS1 Vv) (.cons (zL V V zS1 Vv) (.cons (zL V V zS1 Vv) (.nil)))) <| zV V V (.cons (zR0 V V (by rw [zR]; exact zZ4 V) ta27 V Vv) (.cons (zR0 V V (by rw [zR]; exact zZ4 V) ta27 V Vv) (.nil))) ?_
 refine dO V V V (zR0 V V (by rw [zR]; exact zZ4 V) ta60 V Vv) ?_
 refine zG1 V V V V (zX0 V V V co48 (((clock_reads id).sl (S := sT S id 8 (s1 :: rest) 68 r (vS S (c.map encC)) c.length ++ L) (L := [.cells z5]) (zO3 (sT_rd hid)) hlen).mono fun v σ' hv => ⟨hv.1, hv.2.trans (by rw [set_sl (sT_rd hid), sT_set hid])⟩)) ?_
 refine dO V V V (zI1 V zS el68 V V (by decide) (by decide) V V Vv) ?_
 refine zG1 V V V V (zR4 V zS el68 V V (by rw [zR]; exact zZ4 V) (by simp) (by simp; omega) (by simp; omega) ⟨rfl, by rw [zR, sT_row, zR]; rfl⟩) ?_
 refine dO V V V (zL V V zS1 Vv) <| zG1 V V V V (zZ3 V V V (by rw [zR]; exact zZ4 V) sz27 V V (zB V) ⟨rfl, by rw [zR, sT_v, zR]; rfl⟩) ?_
 refine zO0 <| zA <| qR V <| qO V <| zR0 V V (by rw [zR]; exact zZ4 V) ta81 V ?_
 refine qX V V V V co41 (hOne ((clockM r).2) (sT S id 8 (s1 :: rest) 68 (clockM r).2 (vS S (c.map encC ++ [encC (clockM r).1])) (c.length + 1) ++ L ++ [.cells z5]) ⟨by rw [zR]; exact zZ4 rfl, by rw [zR]; exact zZ4 rfl⟩ (zO3 (zO3 (sT_rd hid))) (by omega)) ?_
 rw [set_sl (zO3 (sT_rd hid)), set_sl (sT_rd hid), sT_set hid]
 obtain ⟨⟨n0, m0, s0, c0, w0⟩, hq⟩ : ∃ q, q = (M (clockM r).2).1 := ⟨_, rfl⟩
 rw [← hq]
 refine qO V <| zY0 (S1 := sT S id 8 (s1 :: rest) 68 (M (clockM r).2).2 (vS S (c.map encC ++ [encC (clockM r).1])) (c.length + 1) ++ L) (by simp [sT_len]) V V V V sz30 V V (zB V) V ?_
 refine qN <| zG ?_
 have e1 : c.map encC ++ [encC (clockM r).1] = (c ++ [(clockM r).1]).map encC := by rw [List.map_append]; rfl
 have e2 : c.length + 1 = (c ++ [(clockM r).1]).length := by simp
 exact zB2 (y := encV (.mk n0 m0 s0 c0 w0)) (by simp [sT_len]) (.inr V) Tryz.results49 V V ta30 V (.refl _) (zG2 _ _) (by
   have h7 := hcls (M (clockM r).2).2 (c ++ [(clockM r).1]) L hcl
   rwa [← e1, ← e2] at h7) ⟨by rw [sibM, hq], by rw [sibM, ← e1, ← e2]⟩
theorem sT_cls {S : MS} {id ty : Nat} {k : Int} {ss : List Sch} {r r' r0 : RdS} {v v' : List MV} {n n' : Nat} {L : MS} (hid : S[id]? = some (rdO r0)) (h : ClS (sT S id k ss ty r v n ++ L)) (hv : ∀ m, S.length + 5 < m → ∀ x ∈ v', Cl m x) : ClS (sT S id k ss ty r' v' n' ++ L) := by
 have e : sT S id k ss ty r' v' n' ++ L = (((sT S id k ss ty r v n ++ L).set id (rdO r')).set (S.length + 3) (.cells v')).set (S.length + 5) (.row ty 1 n') := by
  rw [set_sl (sT_rd hid), sT_set hid, sT_v, sT_row]
 rw [e]
 refine ClS.set (ClS.set (ClS.set h (zG3 _ _)) ?_) trivial
 intro x hx
 exact hv _ (by rw [List.length_set, zF, sT_len]; omega) x hx
theorem cl_vM {S : MS} {m : Nat} (hm : S.length + 5 < m) (c : List Bs) : ∀ x ∈ vM S (c.map encX), Cl m x := fun x hx => by
 simp only [List.mem_cons, List.not_mem_nil, or_false] at hx
 rcases hx with rfl | rfl | rfl | rfl | rfl
 ·exact .int _ _
 ·exact .int _ _
 ·exact cl_lstT hm (fun e => cl_encX _ e) (fun e => .inr rfl)
 ·exact .lst0
 ·exact .lst0
theorem cl_vS {S : MS} {m : Nat} (hm : S.length + 5 < m) (c : List (List Tk)) : ∀ x ∈ vS S (c.map encC), Cl m x := fun x hx => by
 simp only [List.mem_cons, List.not_mem_nil, or_false] at hx
 rcases hx with rfl | rfl | rfl | rfl | rfl
 ·exact .int _ _
 ·exact .int _ _
 ·exact .lst0
 ·exact cl_lstT hm (fun e => cl_encC _ e) (fun e => .inr rfl)
 ·exact .lst0
end
theorem rowGoC_len {α γ : Type} {f : RdS → γ → α × RdS × γ} (hf : ∀ r c, (f r c).2.1.1.length ≤ r.1.length) : ∀ k acc r c, (rowGoC f k acc r c).2.1.1.length ≤ r.1.length
 | 0, acc, r, c => Nat.le_refl _
 | k + 1, acc, r, c => by
  rw [rowGoC]
  split
  ·exact Nat.le_refl _
  ·exact Nat.le_trans (rowGoC_len hf k _ _ _) (hf r c)
theorem rowC_len {α γ : Type} {f : RdS → γ → α × RdS × γ} (hf : ∀ r c, (f r c).2.1.1.length ≤ r.1.length) (r : RdS) (c : γ) : (rowC f r c).2.1.1.length ≤ r.1.length := Nat.le_trans (rowGoC_len hf _ _ _ _) (zU3 r)
theorem lastM_len (r : RdS) : (lastM r).2.1.length ≤ r.1.length := by
 have h1 := (zV2 r).1
 have h2 := (zV2 (numM r).2).1
 have h3 := (zV2 (numM (numM r).2).2).1
 have h4 := textM_len (numM (numM (numM r).2).2).2
 unfold lastM
 split
 ·exact h1
 ·split
  ·exact Nat.le_trans h4 (Nat.le_trans h3 (Nat.le_trans h2 h1))
  ·exact h1
theorem entM_len {M : RdS → Val × RdS} (hM : ∀ r, (M r).2.1.length ≤ r.1.length) (r : RdS) (c : List Bs) : (entM M r c).2.1.1.length ≤ r.1.length := Nat.le_trans (hM _) (textM_len r)
theorem sibM_len {M : RdS → Val × RdS} (hM : ∀ r, (M r).2.1.length ≤ r.1.length) (r : RdS) (c : List (List Tk)) : (sibM M r c).2.1.1.length ≤ r.1.length := Nat.le_trans (hM _) (clockM_len r)
theorem kindM_len {k : Int} {fs : List (RdS → Val × RdS)} (hfs : ∀ f ∈ fs, ∀ r, (f r).2.1.length ≤ r.1.length) (r : RdS) : (kindM k fs r).2.1.length ≤ r.1.length := by
 have h1 : ∀ r, ((fs.headD lastM) r).2.1.length ≤ r.1.length := by
  cases fs with
  | nil => exact lastM_len
  | cons f l => exact hfs f (.head _)
 have h2 : ∀ r, ((fs.tail.headD lastM) r).2.1.length ≤ r.1.length := by
  cases fs with
  | nil => exact lastM_len
  | cons f l =>
   cases l with
   | nil => exact lastM_len
   | cons g l => exact hfs g (.tail _ (.head _))
 unfold kindM
 split
 ·exact flatM_len k r
 ·split
  ·exact rowC_len (entM_len h1) r []
  ·split
   ·exact Nat.le_trans (h2 _) (h1 r)
   ·split
    ·exact lastM_len r
    ·split
     ·exact clockM_len r
     ·exact rowC_len (sibM_len h1) r []
mutual
theorem valueM_len : ∀ (s : Sch) (r : RdS), (valueM s r).2.1.length ≤ r.1.length
 | .mk k ins, r => by
  rw [valueM]
  exact kindM_len (valueMs_len ins) r
theorem valueMs_len : ∀ (l : List Sch), ∀ f ∈ valueMs l, ∀ r : RdS, (f r).2.1.length ≤ r.1.length
 | [], f, h => by simp [valueMs] at h
 | s :: l, f, h => by
  rw [valueMs] at h
  rcases List.mem_cons.1 h with rfl | h
  ·exact valueM_len s
  ·exact valueMs_len l f h
end
theorem value6 (ins : List Sch) (id : Nat) : Reads 23 [.ref id 0, encS (.mk 6 ins)] id encV (valueM (.mk 6 ins)) := by
 intro r S h hlen
 refine zN zG4 V zU4 (zB V) ?_
 refine zS0 fun _ hcl => ?_
 have hcl0 := hcl
 rw [List.append_nil] at hcl
 have hidl := (zI.1 h).1
 refine zA <| qR V <| qB V V V V V <| qB V V V V V <| qO V <| zH0 V zm30 V V <| qN <| zA <| qR V <| qO V <| zH0 V zm30 V V <| qN <| zA <| qR V <| qO V <| zN1 V V V <| qO V <| zH0 V zm81 V V <| qO V <| zY0 (by simp) V V V V sz81 V V (zB V) V ?_
 refine qN <| zA <| zA <| qR V <| qF V V V zM1 <| qO V <| zF0 (by simp) V V V ta3 V ?_
 refine qN <| zW <| zA <| zA <| qR V <| qC V V V V V <| qA V V V <| qN <| zJ V (V) <| qR V <| qC V V V V V <| qA V V V <| qN <| zJ V (V) <| zA <| qR V <| qC V V V V V <| qA V V V <| qN <| zJ V (V) <| zA <| qR V <| qC V V V V V ?_
 refine qA V V V <| qN <| zJ V (V) <| zA <| qR V <| qC V V V V V <| qA V V V <| qN <| zJ V (V) <| zA <| qR V <| qC V V V V V <| qA V V V <| qN <| zX V (V) <| zA <| qR V <| qO V <| zF0 (by simp) V V V ta60 V ?_
 refine qX V V V V co47 ((last_reads id).sl h hlen) ?_
 obtain ⟨⟨n0, m0, s0, c0, w0⟩, hq⟩ : ∃ q, q = (lastM r).1 := ⟨_, rfl⟩
 rw [← hq]
 refine qO V <| zY0 (by simp) V V V V sz30 V V (zB V) V ?_
 refine qN <| zG ?_
 exact zB2 (y := encV (.mk n0 m0 s0 c0 w0)) (by simp) (.inr V) zO2 V V ta30 V (.refl _) (zG2 _ _) (hcl.set (zG3 _ _)) ⟨by rw [valueM]; first | exact congrArg encV hq | rfl, by rw [valueM]; first | exact congrArg encV hq | rfl⟩
theorem value7 (ins : List Sch) (id : Nat) : Reads 23 [.ref id 0, encS (.mk 7 ins)] id encV (valueM (.mk 7 ins)) := by
 intro r S h hlen
 refine zN zG4 V zU4 (zB V) ?_
 refine zS0 fun _ hcl => ?_
 have hcl0 := hcl
 rw [List.append_nil] at hcl
 have hidl := (zI.1 h).1
 refine zA <| qR V <| qB V V V V V <| qB V V V V V <| qO V <| zH0 V zm30 V V <| qN <| zA <| qR V <| qO V <| zH0 V zm30 V V <| qN <| zA <| qR V <| qO V <| zN1 V V V <| qO V <| zH0 V zm81 V V <| qO V <| zY0 (by simp) V V V V sz81 V V (zB V) V ?_
 refine qN <| zA <| zA <| qR V <| qF V V V zM1 <| qO V <| zF0 (by simp) V V V ta3 V ?_
 refine qN <| zW <| zA <| zA <| qR V <| qC V V V V V <| qA V V V <| qN <| zJ V (V) <| qR V <| qC V V V V V <| qA V V V <| qN <| zJ V (V) <| zA <| qR V <| qC V V V V V <| qA V V V <| qN <| zJ V (V) <| zA <| qR V <| qC V V V V V ?_
 refine qA V V V <| qN <| zJ V (V) <| zA <| qR V <| qC V V V V V <| qA V V V <| qN <| zJ V (V) <| zA <| qR V <| qC V V V V V <| qA V V V <| qN <| zJ V (V) <| zA <| qR V <| qC V V V V V <| qA V V V <| qN <| zX V (V) <| zA <| qR V ?_
 refine qO V <| zF0 (by simp) V V V ta60 V ?_
 refine qX V V V V co48 ((clock_reads id).sl h hlen) ?_
 refine qA V V V <| qN <| zA <| qR V <| qM V V V <| qE V V zM V <| qC V V V V V <| qN ?_
 refine zE V (fun h56 => ?_) (fun h56 => ?_)
 ·
  have h0 : ¬ (clockM r).1.length = 0 := by simp at h56; omega
  have hE : valueM (.mk 7 ins) r = (.mk 0 0 [] [(clockM r).1] [], (clockM r).2) := by rw [valueM]; simp [kindM, oneClockM, h0]
  refine qR V <| qM V V V <| qO V <| zI1 V zS el68 V V (by decide) (by decide) V V ?_
  refine qF V V V zS1 <| qO V <| zY0 (by simp) V V V V sz27 V V (zB V) V ?_
  refine qN <| zA <| qR V <| qO V <| zF0 (by simp) V V V ta30 V ?_
  refine qO V <| zY0 (by simp) V V V V sz30 V V (zB V) V ?_
  refine qN <| zG ?_
  first | (exact zB2 (y := encV (.mk 0 0 [] [(clockM r).1] [])) (by simp) (.inr rfl) zO2 rfl rfl ta30 rfl (.agg (.cons (.refl _) (.cons (.refl _) (.cons (.nil 1) (.cons (.refl _) (.cons (.nil 5) .nil)))))) (zG2 _ _) (hcl.set (zG3 _ _)) ⟨by rw [hE]; try rfl, by rw [hE]; try rfl⟩) | (exact zB2 (y := encV (noV)) (by simp) (.inr rfl) zO2 rfl rfl ta30 rfl (.agg (.cons (.refl _) (.cons (.refl _) (.cons (.nil 1) (.cons (.nil 1) (.cons (.nil 5) .nil)))))) (zG2 _ _) (hcl.set (zG3 _ _)) ⟨by rw [hE]; try rfl, by rw [hE]; try rfl⟩)
 ·
  have h0 : (clockM r).1.length = 0 := by simp at h56; simp [h56]
  have hE : valueM (.mk 7 ins) r = (.mk 0 0 [] [] [], (clockM r).2) := by rw [valueM]; simp [kindM, oneClockM, h0]
  refine zQ <| zA <| qR V <| qO V <| zF0 (by simp) V V V ta30 V ?_
  refine qO V <| zY0 (by simp) V V V V sz30 V V (zB V) V ?_
  refine qN <| zG ?_
  first | (exact zB2 (y := encV (.mk 0 0 [] [(clockM r).1] [])) (by simp) (.inr rfl) zO2 rfl rfl ta30 rfl (.agg (.cons (.refl _) (.cons (.refl _) (.cons (.nil 1) (.cons (.refl _) (.cons (.nil 5) .nil)))))) (zG2 _ _) (hcl.set (zG3 _ _)) ⟨by rw [hE]; try rfl, by rw [hE]; try rfl⟩) | (exact zB2 (y := encV (noV)) (by simp) (.inr rfl) zO2 rfl rfl ta30 rfl (.agg (.cons (.refl _) (.cons (.refl _) (.cons (.nil 1) (.cons (.nil 1) (.cons (.nil 5) .nil)))))) (zG2 _ _) (hcl.set (zG3 _ _)) ⟨by rw [hE]; try rfl, by rw [hE]; try rfl⟩)
theorem value5 (d : Nat) (ih : ∀ s, isF d s = true → ∀ id, Reads 23 [.ref id 0, encS s] id encV (valueM s)) (k1 : Int) (i1 : List Sch) (k2 : Int) (i2 : List Sch) (hd : True ∧ ∀ x ∈ [Sch.mk k1 i1, Sch.mk k2 i2], isF d x = true) (id : Nat) : Reads 23 [.ref id 0, encS (.mk 5 [.mk k1 i1, .mk k2 i2])] id encV (valueM (.mk 5 [.mk k1 i1, .mk k2 i2])) := by
 intro r S h hlen
 refine zN zG4 V zU4 (zB V) ?_
 refine zS0 fun _ hcl => ?_
 have hcl0 := hcl
 rw [List.append_nil] at hcl
 have hidl := (zI.1 h).1
 obtain ⟨⟨⟨n1, m1, s1, c1, w1⟩, r1⟩, hq1⟩ : ∃ q, valueM (.mk k1 i1) r = q := ⟨_, rfl⟩
 obtain ⟨⟨⟨n2, m2, s2, c2, w2⟩, r2⟩, hq2⟩ : ∃ q, valueM (.mk k2 i2) r1 = q := ⟨_, rfl⟩
 have hr1 := valueM_len (.mk k1 i1) r
 simp only [hq1] at hr1
 have hone := one_reads 5 k1 i1 [.mk k2 i2] (valueM (.mk k1 i1)) id (S.length + 0) (S.length + 1) (ih (.mk k1 i1) (hd.2 _ (by simp)) id) r (S ++ [.cells [.ref id 0], .cells [.int .i64 5, .lst none 2 (encSs [.mk k1 i1, .mk k2 i2])], .cells z5, .cells z5, .cells [fOne S]]) ⟨by rw [own_getS rfl]; rfl, by rw [own_getS rfl]; rfl⟩ (zO3 h) hlen
 have htwo := (ih (.mk k2 i2) (hd.2 _ (by simp)) id).sl (r := r1) (S := S.set id (rdO r1)) (L := [.cells [.ref id 0], .cells [.int .i64 5, .lst none 2 (encSs [.mk k1 i1, .mk k2 i2])], .cells z5, .cells z5, .cells [fOne S]]) (zE3 h) (by omega)
 simp only [hq1] at hone
 simp only [hq2] at htwo
 rw [set_sl h] at hone
 rw [zI3] at htwo
 have hE : valueM (.mk 5 [.mk k1 i1, .mk k2 i2]) r = (.mk 0 0 [] [] [.mk n1 m1 s1 c1 w1, .mk n2 m2 s2 c2 w2], r2) := by
  rw [valueM, valueMs, valueMs, valueMs]
  simp [kindM, pairM, hq1, hq2]
 refine zA <| qR V <| qB V V V V V <| qB V V V V V <| qO V <| zH0 V zm30 V V <| qN <| zA <| qR V <| qO V <| zH0 V zm30 V V <| qN <| zA <| qR V <| qO V <| zN1 V V V <| qO V <| zH0 V zm81 V V <| qO V <| zY0 (by simp) V V V V sz81 V V (zB V) V ?_
 refine qN <| zA <| zA <| qR V <| qF V V V zM1 <| qO V <| zF0 (by simp) V V V ta3 V ?_
 refine qN <| zW <| zA <| zA <| qR V <| qC V V V V V <| qA V V V <| qN <| zJ V (V) <| qR V <| qC V V V V V <| qA V V V <| qN <| zJ V (V) <| zA <| qR V <| qC V V V V V <| qA V V V <| qN <| zJ V (V) <| zA <| qR V <| qC V V V V V ?_
 refine qA V V V <| qN <| zJ V (V) <| zA <| qR V <| qC V V V V V <| qA V V V <| qN <| zX V (V) ?_
 refine zV0 [1, 7, 10] [_, S.set id (rdO r1) ++ [.cells [.ref id 0], .cells [.int .i64 5, .lst none 2 (encSs [.mk k1 i1, .mk k2 i2])], .cells z5, .cells z5, .cells [fOne S]], S.set id (rdO r2) ++ [.cells [.ref id 0], .cells [.int .i64 5, .lst none 2 (encSs [.mk k1 i1, .mk k2 i2])], .cells z5, .cells z5, .cells [fOne S]], S.set id (rdO r2) ++ [.cells [.ref id 0], .cells [.int .i64 5, .lst none 2 (encSs [.mk k1 i1, .mk k2 i2])], .cells z5, .cells [.int .u64 0, .int .u64 0, .lst0, .lst0, .lst none 5 [encV (.mk n1 m1 s1 c1 w1), encV (.mk n2 m2 s2 c2 w2)]], .cells [fOne S]]] mo (by decide) V V V V ?_
 refine zV V V (.cons (zF0 (by simp) V V V ta81 V Vv) .nil) ?_
 refine zG1 V V V V (zX0 V V V co41 (hone)) <| zV V V (.cons (zF0 (by simp) V V V ta60 V Vv) (.cons (zF0 (by simp) V V V ta60 V Vv) (.nil))) ?_
 refine zV V V (.cons (zL V V zC2 Vv) (.cons (zL V V zC2 Vv) (.cons (zL V V zC2 Vv) (.nil)))) <| zV V V (.cons (zF0 (by simp) V V V ta22 V Vv) (.cons (zF0 (by simp) V V V ta22 V Vv) (.cons (zF0 (by simp) V V V ta22 V Vv) (.nil)))) ?_
 refine zV V V (.cons (zO V zD0 sz24 (by decide) V V V (show _ = some (encS (.mk k2 i2)) from V) Vv) (.cons (zO V zD0 sz24 (by decide) V V V (show _ = some (encS (.mk k2 i2)) from V) Vv) (.cons (zO V zD0 sz24 (by decide) V V V (show _ = some (encS (.mk k2 i2)) from V) Vv) (.nil)))) ?_
 refine zV V V (.cons (zP V V ta24 V Vv) (.cons (zP V V ta24 V Vv) (.nil))) <| zG1 V V V V (zX0 V V V co23 (htwo)) <| dO V V V (zI1 V zT el30 V V (by decide) (by decide) V V Vv) ?_
 refine dO V V V (zL V V zO1 Vv) <| zG1 V V V V (zY0 (by simp) V V V V sz28 V V (zB V) V Vv) ?_
 refine zO0 <| zA <| qR V <| qO V <| zF0 (by simp) V V V ta30 V ?_
 refine qO V <| zY0 (by simp) V V V V sz30 V V (zB V) V ?_
 refine qN <| zG ?_
 exact zB2 (y := encV (.mk 0 0 [] [] [.mk n1 m1 s1 c1 w1, .mk n2 m2 s2 c2 w2])) (by simp) (.inr V) zO2 V V ta30 V (.agg (.cons (.refl _) (.cons (.refl _) (.cons (.nil 1) (.cons (.nil 1) (.cons (.refl _) .nil)))))) (zG2 _ _) (hcl.set (zG3 _ _)) ⟨by rw [hE]; try rfl, by rw [hE]; try rfl⟩
section
section
variable {S : MS} {id ty : Nat} {k : Int} {ss : List Sch} {r : RdS} {v : List MV} {n : Nat}
theorem sT_get0 {j : Nat} {o : MObj} (h : (obJ S id k ss v ty n)[j]? = some o) : (sT S id k ss ty r v n)[S.length + j]? = some o := by
 have := zZ4 (r := r) (L := []) h
 rwa [List.append_nil] at this
theorem sT_v0 {v' : List MV} : (sT S id k ss ty r v n).set (S.length + 3) (.cells v') = sT S id k ss ty r v' n := by
 have := sT_v (S := S) (r := r) (v := v) (id := id) (ty := ty) (k := k) (ss := ss) (n := n) (L := []) (v' := v')
 rwa [List.append_nil, List.append_nil] at this
theorem sT_2 {x : List MV} : (sT S id k ss ty r v n).set (S.length + 2) (.cells x) = S.set id (rdO r) ++ [.cells [.ref id 0], .cells [.int .i64 k, .lst none 2 (encSs ss)], .cells x, .cells v, .cells [fOne S], .row ty 1 n] := by
 unfold sT
 rw [own_setS (by simp)]
 rfl
end
theorem value4 (d : Nat) (ih : ∀ s, isF d s = true → ∀ id, Reads 23 [.ref id 0, encS s] id encV (valueM s)) (k1 : Int) (i1 : List Sch) (hd : True ∧ ∀ x ∈ [Sch.mk k1 i1], isF d x = true) (id : Nat) : Reads 23 [.ref id 0, encS (.mk 4 [.mk k1 i1])] id encV (valueM (.mk 4 [.mk k1 i1])) := by
 intro r S h hlen
 refine zN zG4 V zU4 (zB V) ?_
 refine zS0 fun _ hcl => ?_
 rw [List.append_nil] at hcl
 have hidl := (zI.1 h).1
 refine zA <| qR V <| qB V V V V V <| qB V V V V V <| qO V <| zH0 V zm30 V V <| qN <| zA <| qR V <| qO V <| zH0 V zm30 V V <| qN <| zA <| qR V <| qO V <| zN1 V V V <| qO V <| zH0 V zm81 V V <| qO V <| zT0 V V V V sz81 V V (zB V) V <| qN <| zA <| zA <| qR V <| qF V V V zM1 <| qL V V V V ta3 V ?_
 refine qN <| zW <| zA <| zA <| qR V <| qC V V V V V <| qA V V V <| qN <| zJ V (V) <| qR V <| qC V V V V V <| qA V V V <| qN <| zJ V (V) <| zA <| qR V <| qC V V V V V <| qA V V V <| qN <| zJ V (V) <| zA <| qR V <| qC V V V V V ?_
 refine qA V V V <| qN <| zX V (V) <| mwp_cellrowAt 3 2 9 1 V V (Nat.le_refl _) V V ?_
 refine zS0 fun _ hcl7 => ?_
 have hS0 : S ++ obJ S id 4 [.mk k1 i1] (vM S []) 9 0 = sT S id 4 [.mk k1 i1] 9 r (vM S (([] : List (Bs)).map encX)) ([] : List (Bs)).length := by
  unfold sT
  rw [set_self_rd h]
  rfl
 have hT : RdT (γ := List (Bs)) id (S.length + 6) (fun (r : RdS) (c : List (Bs)) => sT S id 4 [.mk k1 i1] 9 r (vM S (c.map encX)) c.length) := ⟨fun _ _ => sT_rd h, fun _ _ _ => sT_set h, fun _ _ => sT_len, fun r' c' => by
  have h8 : ClS (sT S id 4 [.mk k1 i1] 9 r (vM S (([] : List (Bs)).map encX)) ([] : List (Bs)).length ++ []) := by rw [List.append_nil, ← hS0]; exact hcl7
  have h9 := sT_cls (r' := r') (n' := c'.length) h h8 (fun m hm => cl_vM hm c')
  rwa [List.append_nil] at h9⟩
 have hone := one_reads 4 k1 i1 [] (valueM (.mk k1 i1)) id (S.length + 0) (S.length + 1) (ih (.mk k1 i1) (hd.2 _ (by simp)) id)
 obtain ⟨q, hq⟩ : ∃ q, (rowC (entM (valueM (.mk k1 i1))) r []) = q := ⟨_, rfl⟩
 have hrow : MCalls Tryz.prog 45 [.ref id 0, .fn (.func 46) [] [.ref (S.length + 3) 0, .ref (S.length + 0) 0, .ref (S.length + 4) 0]] (sT S id 4 [.mk k1 i1] 9 r (vM S (([] : List (Bs)).map encX)) ([] : List (Bs)).length) fun v σ' => v = .lst none 5 (q.1.map encV) ∧ σ' = sT S id 4 [.mk k1 i1] 9 q.2.1 (vM S (q.2.2.map encX)) q.2.2.length := by
  have hrow0 := rowV_spec hT (c0 := []) (I := fun j c => c.length = j) co46 rfl (fun j r c hj => by simp [entM, hj]) (fun j r c L hj hi hl hn => ent_one (.mk k1 i1) [] h hone (fun r' c' L r c hh => sT_cls h hh (fun m hm => cl_vM hm c')) r c L hl (by omega)) (entM_len (valueM_len (.mk k1 i1))) r hlen
  rw [hq] at hrow0
  exact hrow0
 have hE : valueM (.mk 4 [.mk k1 i1]) r = (.mk 0 0 (rowC (entM (valueM (.mk k1 i1))) r []).2.2 [] (rowC (entM (valueM (.mk k1 i1))) r []).1, (rowC (entM (valueM (.mk k1 i1))) r []).2.1) := by
  rw [valueM, valueMs, valueMs]
  simp [kindM, mapM]
 rw [hq] at hE
 show mwp _ _ _ _ _ _ _ (S ++ obJ S id 4 [.mk k1 i1] (vM S []) 9 0)
 rw [hS0]
 refine qR V <| qO V <| zR0 V V (sT_get0 V) ta60 V <| qO V <| zN1 V V V ?_
 refine qX V V V V co45 (hrow) ?_
 refine qF V V V zO1 <| qO V <| zZ3 (id := S.length + 3) V V V (sT_get0 V) sz28 V V (zB V) ?_
 rw [sT_v0]
 refine qN <| zA <| qR V <| qO V <| zR0 V V (sT_get0 V) ta30 V <| qO V <| zZ3 (id := S.length + 2) V V V (sT_get0 V) sz30 V V (zB V) ?_
 rw [sT_2]
 refine qN <| zG ?_
 exact zB2 (y := encV (.mk 0 0 q.2.2 [] q.1)) (by simp) (.inr V) zO2 V V ta30 V (.agg (.cons (.refl _) (.cons (.refl _) (.cons (.view _ _ _) (.cons (.nil 1) (.cons (.of_eq (by rw [encVs_eq])) .nil)))))) (zG2 _ _) (hcl.set (zG3 _ _)) ⟨by rw [hE], by rw [hE]⟩
theorem value8 (d : Nat) (ih : ∀ s, isF d s = true → ∀ id, Reads 23 [.ref id 0, encS s] id encV (valueM s)) (k1 : Int) (i1 : List Sch) (hd : True ∧ ∀ x ∈ [Sch.mk k1 i1], isF d x = true) (id : Nat) : Reads 23 [.ref id 0, encS (.mk 8 [.mk k1 i1])] id encV (valueM (.mk 8 [.mk k1 i1])) := by
 intro r S h hlen
 refine zN zG4 V zU4 (zB V) ?_
 refine zS0 fun _ hcl => ?_
 rw [List.append_nil] at hcl
 have hidl := (zI.1 h).1
 refine zA <| qR V <| qB V V V V V <| qB V V V V V <| qO V <| zH0 V zm30 V V <| qN <| zA <| qR V <| qO V <| zH0 V zm30 V V <| qN <| zA <| qR V <| qO V <| zN1 V V V <| qO V <| zH0 V zm81 V V <| qO V <| zT0 V V V V sz81 V V (zB V) V <| qN <| zA <| zA <| qR V <| qF V V V zM1 <| qL V V V V ta3 V ?_
 refine qN <| zW <| zA <| zA <| qR V <| qC V V V V V <| qA V V V <| qN <| zJ V (V) <| qR V <| qC V V V V V <| qA V V V <| qN <| zJ V (V) <| zA <| qR V <| qC V V V V V <| qA V V V <| qN <| zJ V (V) <| zA <| qR V <| qC V V V V V ?_
 refine qA V V V <| qN <| zJ V (V) <| zA <| qR V <| qC V V V V V <| qA V V V <| qN <| zJ V (V) <| zA <| qR V <| qC V V V V V <| qA V V V <| qN <| zJ V (V) <| zA <| qR V <| qC V V V V V <| qA V V V <| qN <| zJ V (V) <| mwp_cellrowAt 3 3 68 1 V V (Nat.le_refl _) V V ?_
 refine zS0 fun _ hcl7 => ?_
 have hS0 : S ++ obJ S id 8 [.mk k1 i1] (vS S []) 68 0 = sT S id 8 [.mk k1 i1] 68 r (vS S (([] : List (List Tk)).map encC)) ([] : List (List Tk)).length := by
  unfold sT
  rw [set_self_rd h]
  rfl
 have hT : RdT (γ := List (List Tk)) id (S.length + 6) (fun (r : RdS) (c : List (List Tk)) => sT S id 8 [.mk k1 i1] 68 r (vS S (c.map encC)) c.length) := ⟨fun _ _ => sT_rd h, fun _ _ _ => sT_set h, fun _ _ => sT_len, fun r' c' => by
  have h8 : ClS (sT S id 8 [.mk k1 i1] 68 r (vS S (([] : List (List Tk)).map encC)) ([] : List (List Tk)).length ++ []) := by rw [List.append_nil, ← hS0]; exact hcl7
  have h9 := sT_cls (r' := r') (n' := c'.length) h h8 (fun m hm => cl_vS hm c')
  rwa [List.append_nil] at h9⟩
 have hone := one_reads 8 k1 i1 [] (valueM (.mk k1 i1)) id (S.length + 0) (S.length + 1) (ih (.mk k1 i1) (hd.2 _ (by simp)) id)
 obtain ⟨q, hq⟩ : ∃ q, (rowC (sibM (valueM (.mk k1 i1))) r []) = q := ⟨_, rfl⟩
 have hrow : MCalls Tryz.prog 45 [.ref id 0, .fn (.func 49) [] [.ref (S.length + 3) 0, .ref (S.length + 0) 0, .ref (S.length + 4) 0]] (sT S id 8 [.mk k1 i1] 68 r (vS S (([] : List (List Tk)).map encC)) ([] : List (List Tk)).length) fun v σ' => v = .lst none 5 (q.1.map encV) ∧ σ' = sT S id 8 [.mk k1 i1] 68 q.2.1 (vS S (q.2.2.map encC)) q.2.2.length := by
  have hrow0 := rowV_spec hT (c0 := []) (I := fun j c => c.length = j) co49 rfl (fun j r c hj => by simp [sibM, hj]) (fun j r c L hj hi hl hn => sib_one (.mk k1 i1) [] h hone (fun r' c' L r c hh => sT_cls h hh (fun m hm => cl_vS hm c')) r c L hl (by omega)) (sibM_len (valueM_len (.mk k1 i1))) r hlen
  rw [hq] at hrow0
  exact hrow0
 have hE : valueM (.mk 8 [.mk k1 i1]) r = (.mk 0 0 [] (rowC (sibM (valueM (.mk k1 i1))) r []).2.2 (rowC (sibM (valueM (.mk k1 i1))) r []).1, (rowC (sibM (valueM (.mk k1 i1))) r []).2.1) := by
  rw [valueM, valueMs, valueMs]
  simp [kindM, sibsM]
 rw [hq] at hE
 show mwp _ _ _ _ _ _ _ (S ++ obJ S id 8 [.mk k1 i1] (vS S []) 68 0)
 rw [hS0]
 refine qR V <| qO V <| zR0 V V (sT_get0 V) ta60 V <| qO V <| zN1 V V V ?_
 refine qX V V V V co45 (hrow) ?_
 refine qF V V V zO1 <| qO V <| zZ3 (id := S.length + 3) V V V (sT_get0 V) sz28 V V (zB V) ?_
 rw [sT_v0]
 refine qN <| zA <| qR V <| qO V <| zR0 V V (sT_get0 V) ta30 V <| qO V <| zZ3 (id := S.length + 2) V V V (sT_get0 V) sz30 V V (zB V) ?_
 rw [sT_2]
 refine qN <| zG ?_
 exact zB2 (y := encV (.mk 0 0 [] q.2.2 q.1)) (by simp) (.inr V) zO2 V V ta30 V (.agg (.cons (.refl _) (.cons (.refl _) (.cons (.nil 1) (.cons (.view _ _ _) (.cons (.of_eq (by rw [encVs_eq])) .nil)))))) (zG2 _ _) (hcl.set (zG3 _ _)) ⟨by rw [hE], by rw [hE]⟩
theorem value_reads (d : Nat) : ∀ s, isF d s = true → ∀ id, Reads 23 [.ref id 0, encS s] id encV (valueM s) := by
 induction d with
 | zero => intro s h; simp [isF] at h
 | succ d ih =>
  rintro ⟨k, ins⟩ hd id
  rw [isF] at hd
  simp only [Bool.and_eq_true, List.all_eq_true, beq_iff_eq] at hd
  rcases k8_of hd.1 with rfl | rfl | rfl | rfl | rfl | rfl | rfl | rfl
  ·have h := flat_reads 1 ins (by omega) id
   rwa [show flatM 1 = valueM (.mk 1 ins) by rw [valueM, kindM, if_pos (by omega)]] at h
  ·have h := flat_reads 2 ins (by omega) id
   rwa [show flatM 2 = valueM (.mk 2 ins) by rw [valueM, kindM, if_pos (by omega)]] at h
  ·have h := flat_reads 3 ins (by omega) id
   rwa [show flatM 3 = valueM (.mk 3 ins) by rw [valueM, kindM, if_pos (by omega)]] at h
  ·obtain ⟨⟨k1, i1⟩, rfl⟩ := one_ins hd.1 (by decide)
   exact value4 d ih k1 i1 ⟨trivial, hd.2⟩ id
  ·obtain ⟨⟨k1, i1⟩, ⟨k2, i2⟩, rfl⟩ := two_of hd.1
   exact value5 d ih k1 i1 k2 i2 ⟨trivial, hd.2⟩ id
  ·exact value6 ins id
  ·exact value7 ins id
  ·obtain ⟨⟨k1, i1⟩, rfl⟩ := one_ins hd.1 (by decide)
   exact value8 d ih k1 i1 ⟨trivial, hd.2⟩ id
end
section
section
variable {α β : Type}
theorem Cod.iso {M : RdS → α × RdS} {E : α → Bs} {P Q : α → Prop} (h : Cod M E P Q) {M' : RdS → β × RdS} {E' : β → Bs} {P' Q' : β → Prop} (f : α → β) (g : β → α)
  (hM : ∀ r, (M' r).2 = (M r).2 ∧ ((M r).2.2 = none → (M' r).1 = f (M r).1)) (hg : ∀ y, P' y → P (g y) ∧ f (g y) = y ∧ E' y = E (g y)) (hq : ∀ x, Q' (f x) → Q x ∧ E' (f x) = E x) : Cod M' E' P' Q' where
 er b e := by rw [(hM _).1]; exact h.er b e
 rt y rest hy := by
  obtain ⟨h1, h2, h3⟩ := hg y hy
  have h4 := h.rt (g y) rest h1
  obtain ⟨h5, h6⟩ := hM (E' y ++ rest, none)
  rw [h3] at h5 h6 ⊢
  rw [h4] at h5 h6
  exact Prod.ext ((h6 rfl).trans h2) h5
 sh y p q hy e hq' := by
  obtain ⟨h1, h2, h3⟩ := hg y hy
  rw [(hM _).1]
  exact h.sh (g y) p q h1 (h3 ▸ e) hq'
 un b y rest hy hqy := by
  obtain ⟨h5, h6⟩ := hM (b, none)
  rw [hy] at h5 h6
  have e1 : (M (b, none)).2 = (rest, none) := h5.symm
  have e2 := h6 (by rw [e1])
  have e3 : y = f (M (b, none)).1 := e2
  rw [e3] at hqy
  obtain ⟨q1, q2⟩ := hq _ hqy
  rw [e3, q2]
  exact h.un b _ rest (Prod.ext rfl e1) q1
def pairR (M : RdS → α × RdS) (N : RdS → β × RdS) (r : RdS) : (α × β) × RdS := (((M r).1, (N (M r).2).1), (N (M r).2).2)
theorem Cod.pair {M : RdS → α × RdS} {E : α → Bs} {P Q : α → Prop} {N : RdS → β × RdS} {F : β → Bs} {R T : β → Prop} (h : Cod M E P Q) (k : Cod N F R T) : Cod (pairR M N) (fun x => E x.1 ++ F x.2) (fun x => P x.1 ∧ R x.2) (fun x => Q x.1 ∧ T x.2) where
 er b e := by
  show (N (M (b, some e)).2).2 = _
  rw [h.er, k.er]
 rt x rest hx := by
  unfold pairR
  rw [zR, h.rt x.1 _ hx.1]
  simp only
  rw [k.rt x.2 _ hx.2]
 sh x p q hx e hq := by
  rcases cut_two e hq with ⟨q', e1, hq'⟩ | ⟨p', e1, e2⟩
  ·have h1 := h.sh x.1 p q' hx.1 e1 hq'
   show (N (M (p, none)).2).2.2 = _
   rw [show (M (p, none)).2 = ((M (p, none)).2.1, some 11) from Prod.ext rfl h1, k.er]
  ·subst e1
   show (N (M (E x.1 ++ p', none)).2).2.2 = _
   rw [h.rt x.1 p' hx.1]
   exact k.sh x.2 p' q hx.2 e2 hq
 un b x rest hx hq := by
  have h1 : ((M (b, none)).1, (N (M (b, none)).2).1) = x := congrArg Prod.fst hx
  have h2 : (N (M (b, none)).2).2 = (rest, none) := congrArg Prod.snd hx
  subst h1
  cases he : (M (b, none)).2.2 with
  | some e =>
   rw [show (M (b, none)).2 = ((M (b, none)).2.1, some e) from Prod.ext rfl he, k.er] at h2
   cases h2
  | none =>
   have hr : (M (b, none)).2 = ((M (b, none)).2.1, none) := Prod.ext rfl he
   have u1 := h.un b _ (M (b, none)).2.1 (Prod.ext rfl hr) hq.1
   have u2 := k.un (M (b, none)).2.1 (N (M (b, none)).2).1 rest (by rw [← hr]; exact Prod.ext rfl h2) hq.2
   show b = (E (M (b, none)).1 ++ F (N (M (b, none)).2).1) ++ rest
   rw [zR, ← u2]
   exact u1
def seqM (X : RdS → α × RdS) (M : RdS → β × RdS) (r : RdS) (c : List α) : β × RdS × List α := ((M (X r).2).1, (M (X r).2).2, c ++ [(X r).1])
theorem rowGoC_zip (X : RdS → α × RdS) (M : RdS → β × RdS) : ∀ (k : Nat) (a : List (α × β)) (r : RdS), (rowGoC (seqM X M) k (a.map (·.2)) r (a.map (·.1))).2.1 = (rowGo (pairR X M) k a r).2 ∧
  ((rowGo (pairR X M) k a r).2.2 = none → (rowGoC (seqM X M) k (a.map (·.2)) r (a.map (·.1))).1 = (rowGo (pairR X M) k a r).1.map (·.2) ∧ (rowGoC (seqM X M) k (a.map (·.2)) r (a.map (·.1))).2.2 = (rowGo (pairR X M) k a r).1.map (·.1))
 | 0, a, r => ⟨rfl, fun _ => ⟨rfl, rfl⟩⟩
 | k + 1, a, r => by
  rw [rowGoC, rowGo]
  by_cases h : r.2.isSome = true
  ·rw [if_pos h, if_pos h]
   refine ⟨rfl, fun hn => ?_⟩
   rw [show (([] : List (α × β)), r).2.2 = r.2 from rfl] at hn
   rw [hn] at h
   cases h
  ·rw [if_neg h, if_neg h]
   have := rowGoC_zip X M k (a ++ [(pairR X M r).1]) (pairR X M r).2
   rw [List.map_append, List.map_append] at this
   exact this
theorem rowC_zip (X : RdS → α × RdS) (M : RdS → β × RdS) (r : RdS) : (rowC (seqM X M) r []).2.1 = (rowM (pairR X M) r).2 ∧
  ((rowM (pairR X M) r).2.2 = none → (rowC (seqM X M) r []).1 = (rowM (pairR X M) r).1.map (·.2) ∧ (rowC (seqM X M) r []).2.2 = (rowM (pairR X M) r).1.map (·.1)) := rowGoC_zip X M (numM r).1 [] (rowStart r)
end
theorem cod_who : Cod whoM numB (fun n => n ≤ 1000000) (fun _ => True) where
 er b e := by simp [whoM, num_err]
 rt n rest h := by
  unfold whoM
  rw [zL4 n rest (by omega), if_neg (by simpa using h)]
 sh n p q h e hq := by
  unfold whoM
  rw [num_short (by omega) e hq]
  rfl
 un b n rest h _ := by
  unfold whoM at h
  rcases num_cases b with ⟨e, hn⟩ | ⟨v, l, hn⟩
  ·rw [hn] at h
   simp at h
  ·rw [hn] at h
   split at h
   ·simp [fail_ok] at h
   ·simp only [Prod.mk.injEq, and_true] at h
    obtain ⟨rfl, rfl⟩ := h
    exact (num_one hn).1
theorem cod_tick : Cod tickM tkB (fun t => (0 ≤ t.1 ∧ t.1 ≤ 1000000) ∧ okTk t) (fun _ => True) :=
 (cod_who.pair cod_num).iso (fun x => ((x.1 : Int), (x.2 : Int))) (fun t => (t.1.toNat, t.2.toNat)) (fun r => ⟨rfl, fun _ => rfl⟩)
  (fun t h => by
   obtain ⟨⟨h1, h2⟩, h3, h4⟩ := h
   exact ⟨⟨by omega, by omega⟩, Prod.ext (Int.toNat_of_nonneg h1) (Int.toNat_of_nonneg h3), rfl⟩) (fun x _ => ⟨⟨trivial, trivial⟩, rfl⟩)
theorem cod_clock : Cod clockM (rowB tkB) (fun l => l.length ≤ 40 ∧ ∀ x ∈ l, (0 ≤ x.1 ∧ x.1 ≤ 1000000) ∧ okTk x) (fun l => ∀ x ∈ l, True) := cod_row cod_tick
theorem clk_who {c : List Tk} (h : isClockF c = true) : c.length ≤ 40 ∧ ∀ t ∈ c, 0 ≤ t.1 ∧ t.1 ≤ 1000000 := by
 unfold isClockF at h
 rw [Bool.and_eq_true, decide_eq_true_eq, decide_eq_true_eq] at h
 refine ⟨h.2, fun t ht => ?_⟩
 obtain ⟨j, hj⟩ := List.getElem?_of_mem ht
 have h1 := h.1 j (zI.1 hj).1
 unfold okAt at h1
 rw [hj] at h1
 simp only [Bool.and_eq_true, Bool.not_eq_true', decide_eq_false_iff_not] at h1
 omega
theorem short_mem {s : List Bs} (h : shortF s = true) : ∀ x ∈ s, x.length ≤ 16 := fun x hx => by
 have := List.all_eq_true.1 h x hx
 simpa using this
theorem cause_mem {l : List (List Tk)} (h : isCauseF l = true) : ∀ c ∈ l, isClockF c = true := by
 unfold isCauseF at h
 rw [Bool.and_eq_true, List.all_eq_true] at h
 exact h.1
def lastB (v : Val) : Bs := numB v.sv.length ++ v.sv.flatMap fun t => numB v.nv.toNat ++ (numB v.mv.toNat ++ textB t)
def oneB (v : Val) : Bs := rowB tkB (v.cv.headD [])
def mapB (E : Val → Bs) (v : Val) : Bs := entsB E (v.sv.zip v.vv)
def pairB (E F : Val → Bs) (v : Val) : Bs := E (v.vv.headD noV) ++ F (v.vv.tail.headD noV)
def sibB (E : Val → Bs) (p : List Tk × Val) : Bs := rowB tkB p.1 ++ E p.2
def sibsB (E : Val → Bs) (v : Val) : Bs := rowB (sibB E) (v.cv.zip v.vv)
def kindB (k : Int) (fs : List (Val → Bs)) : Val → Bs :=
 if k = 1 ∨ k = 2 ∨ k = 3 then flatB k else if k = 4 then mapB (fs.headD lastB) else if k = 5 then pairB (fs.headD lastB) (fs.tail.headD lastB) else if k = 6 then lastB else if k = 7 then oneB else sibsB (fs.headD lastB)
mutual
def valB : Sch → Val → Bs
 | .mk k ins => kindB k (valBs ins)
def valBs : List Sch → List (Val → Bs)
 | [] => []
 | s :: l => valB s :: valBs l
end
def isOk (s : Sch) (v : Val) : Prop := isVF s v = true ∧ okV v
theorem bare_nums {k : Int} (hk : k = 1 ∨ k = 2) {ins : List Sch} {n m : Int} {s : List Bs} {c : List (List Tk)} {w : List Val} (h : isVF (.mk k ins) (.mk n m s c w) = true) : m = 0 ∧ s = [] ∧ c = [] ∧ w = [] := by
 rw [isVF, isB] at h
 simp only [Bool.and_eq_true] at h
 have hb := h.1.1.1
 rcases hk with rfl | rfl <;> simpa [bareF, numsK, textsK, clocksK, valuesK, Val.nv, Val.mv, Val.sv, Val.cv, Val.vv, List.length_eq_zero_iff, and_assoc] using hb
theorem cod_nums {k : Int} (hk : k = 1 ∨ k = 2) (ins : List Sch) : Cod (valueM (.mk k ins)) (valB (.mk k ins)) (isOk (.mk k ins)) (fun v => isVF (.mk k ins) v = true) := by
 have h3 : k ≠ 3 := by omega
 have h0 : k = 1 ∨ k = 2 ∨ k = 3 := by omega
 have e1 : valueM (.mk k ins) = flatM k := by rw [valueM, kindM, if_pos h0]
 have e2 : valB (.mk k ins) = flatB k := by rw [valB, kindB, if_pos h0]
 rw [e1, e2]
 refine cod_num.iso (fun n => .mk (n : Int) 0 [] [] []) (fun v => v.nv.toNat) (fun r => ?_) (fun v h => ?_) (fun n h => ⟨trivial, ?_⟩)
 ·rw [flatM, if_neg h3]
  exact ⟨rfl, fun _ => rfl⟩
 ·obtain ⟨n, m, s, c, w⟩ := v
  obtain ⟨rfl, rfl, rfl, rfl⟩ := bare_nums hk h.1
  have ho := h.2
  rw [okV] at ho
  refine ⟨by show n.toNat < _; omega, ?_, ?_⟩
  ·show Val.mk (n.toNat : Int) 0 [] [] [] = _
   rw [Int.toNat_of_nonneg (by omega)]
  ·rw [flatB, if_neg h3]
   rfl
 ·rw [flatB, if_neg h3, Int.toNat_natCast]
theorem bare_set {ins : List Sch} {n m : Int} {s : List Bs} {c : List (List Tk)} {w : List Val} (h : isVF (.mk 3 ins) (.mk n m s c w) = true) : n = 0 ∧ m = 0 ∧ c = [] ∧ w = [] ∧ s.length ≤ 40 ∧ ∀ x ∈ s, x.length ≤ 16 := by
 rw [isVF, isB] at h
 simp only [Bool.and_eq_true] at h
 have hb := h.1.1.1
 have hr : isRowF s = true := h.2
 unfold isRowF at hr
 rw [Bool.and_eq_true, Bool.and_eq_true, decide_eq_true_eq] at hr
 have : n = 0 ∧ m = 0 ∧ c = [] ∧ w = [] := by simpa [bareF, numsK, textsK, clocksK, valuesK, Val.nv, Val.mv, Val.sv, Val.cv, Val.vv, List.length_eq_zero_iff, and_assoc] using hb
 exact ⟨this.1, this.2.1, this.2.2.1, this.2.2.2, hr.1.1, short_mem hr.2⟩
theorem cod_set (ins : List Sch) : Cod (valueM (.mk 3 ins)) (valB (.mk 3 ins)) (isOk (.mk 3 ins)) (fun v => isVF (.mk 3 ins) v = true) := by
 have e1 : valueM (.mk 3 ins) = flatM 3 := by rw [valueM, kindM, if_pos (by omega)]
 have e2 : valB (.mk 3 ins) = flatB 3 := by rw [valB, kindB, if_pos (by omega)]
 rw [e1, e2]
 refine (cod_row cod_text).iso (fun l => .mk 0 0 l [] []) (fun v => v.sv) (fun r => ?_) (fun v h => ?_) (fun n h => ⟨fun _ _ => trivial, ?_⟩)
 ·rw [flatM, if_pos rfl]
  exact ⟨rfl, fun _ => rfl⟩
 ·obtain ⟨n, m, s, c, w⟩ := v
  obtain ⟨rfl, rfl, rfl, rfl, h1, h2⟩ := bare_set h.1
  exact ⟨⟨h1, h2⟩, rfl, by rw [flatB, if_pos rfl]; rfl⟩
 ·rw [flatB, if_pos rfl]
theorem bare_map {s1 : Sch} {n m : Int} {s : List Bs} {c : List (List Tk)} {w : List Val} (h : isVF (.mk 4 [s1]) (.mk n m s c w) = true) : n = 0 ∧ m = 0 ∧ c = [] ∧ s.length = w.length ∧ (s.length ≤ 40 ∧ ∀ x ∈ s, x.length ≤ 16) ∧ ∀ x ∈ w, isVF s1 x = true := by
 rw [isVF, isB] at h
 simp only [Bool.and_eq_true] at h
 have hb := h.1.1.1
 have h2 := h.2
 rw [if_neg (by decide), if_neg (by decide), if_neg (by decide), if_pos trivial] at h2
 simp only [Bool.and_eq_true, decide_eq_true_eq, List.all_eq_true, isVL, List.headD_cons] at h2
 obtain ⟨⟨hr, hl⟩, hv⟩ := h2
 unfold isRowF at hr
 rw [Bool.and_eq_true, Bool.and_eq_true, decide_eq_true_eq] at hr
 have : n = 0 ∧ m = 0 ∧ c = [] := by simpa [bareF, numsK, textsK, clocksK, valuesK, Val.nv, Val.mv, Val.sv, Val.cv, Val.vv, List.length_eq_zero_iff, and_assoc] using hb
 exact ⟨this.1, this.2.1, this.2.2, hl, ⟨hr.1.1, short_mem hr.2⟩, fun x hx => (hv x hx).1⟩
theorem zip_back {α β : Type} (l : List (α × β)) : (l.map (·.1)).zip (l.map (·.2)) = l := by
 induction l with
 | nil => rfl
 | cons x l ih => rw [List.map_cons, List.map_cons, List.zip_cons_cons, ih]
theorem zip_fst {α β : Type} : ∀ {a : List α} {b : List β}, a.length = b.length → (a.zip b).map (·.1) = a ∧ (a.zip b).map (·.2) = b
 | [], [], _ => ⟨rfl, rfl⟩
 | [], _ :: _, h => by simp at h
 | _ :: _, [], h => by simp at h
 | x :: a, y :: b, h => by
  obtain ⟨h1, h2⟩ := zip_fst (a := a) (b := b) (by simpa using h)
  exact ⟨by rw [List.zip_cons_cons, List.map_cons, h1], by rw [List.zip_cons_cons, List.map_cons, h2]⟩
theorem zip_len {α β : Type} {a : List α} {b : List β} (h : a.length = b.length) : (a.zip b).length = a.length := by
 rw [List.length_zip]
 omega
theorem ok_vals {n m : Int} {s : List Bs} {c : List (List Tk)} {w : List Val} (h : okV (.mk n m s c w)) : ∀ x ∈ w, okV x := by
 rw [okV] at h
 exact okVs_iff.1 h.2.2.2
theorem cod_map {s1 : Sch} (h1 : Cod (valueM s1) (valB s1) (isOk s1) (fun v => isVF s1 v = true)) : Cod (valueM (.mk 4 [s1])) (valB (.mk 4 [s1])) (isOk (.mk 4 [s1])) (fun v => isVF (.mk 4 [s1]) v = true) := by
 have e1 : valueM (.mk 4 [s1]) = mapM (valueM s1) := by rw [valueM, kindM, if_neg (by omega), if_pos rfl, valueMs]; rfl
 have e2 : valB (.mk 4 [s1]) = mapB (valB s1) := by rw [valB, kindB, if_neg (by omega), if_pos rfl, valBs]; rfl
 rw [e1, e2]
 refine (cod_row (cod_text.pair h1)).iso (fun l => .mk 0 0 (l.map (·.1)) [] (l.map (·.2))) (fun v => v.sv.zip v.vv) (fun r => ?_) (fun v h => ?_) (fun l h => ⟨?_, ?_⟩)
 ·obtain ⟨q1, q2⟩ := rowC_zip textM (valueM s1) r
  refine ⟨q1, fun hn => ?_⟩
  obtain ⟨q3, q4⟩ := q2 hn
  show Val.mk 0 0 (rowC (seqM textM (valueM s1)) r []).2.2 [] (rowC (seqM textM (valueM s1)) r []).1 = _
  rw [q3, q4]
 ·obtain ⟨n, m, s, c, w⟩ := v
  obtain ⟨rfl, rfl, rfl, hl, hs, hw⟩ := bare_map h.1
  obtain ⟨z1, z2⟩ := zip_fst hl
  refine ⟨⟨(zip_len hl).symm ▸ hs.1, fun x hx => ?_⟩, ?_, rfl⟩
  ·have hx2 : x.2 ∈ w := by rw [← z2]; exact List.mem_map.2 ⟨x, hx, rfl⟩
   have hx1 : x.1 ∈ s := by rw [← z1]; exact List.mem_map.2 ⟨x, hx, rfl⟩
   exact ⟨hs.2 _ hx1, hw _ hx2, ok_vals h.2 _ hx2⟩
  ·show Val.mk 0 0 ((s.zip w).map (·.1)) [] ((s.zip w).map (·.2)) = _
   rw [z1, z2]
 ·obtain ⟨-, -, -, -, -, hw⟩ := bare_map h
  exact fun x hx => ⟨trivial, hw _ (List.mem_map.2 ⟨x, hx, rfl⟩)⟩
 ·show entsB (valB s1) ((l.map (·.1)).zip (l.map (·.2))) = _
  rw [zip_back]
  rfl
theorem bare_pair {s1 s2 : Sch} {n m : Int} {s : List Bs} {c : List (List Tk)} {w : List Val} (h : isVF (.mk 5 [s1, s2]) (.mk n m s c w) = true) : n = 0 ∧ m = 0 ∧ s = [] ∧ c = [] ∧ ∃ x y, w = [x, y] ∧ isVF s1 x = true ∧ isVF s2 y = true := by
 rw [isVF, isB] at h
 simp only [Bool.and_eq_true] at h
 have hb := h.1.1.1
 have h2 := h.2
 rw [if_neg (by decide), if_neg (by decide), if_neg (by decide), if_neg (by decide), if_pos trivial] at h2
 have : n = 0 ∧ m = 0 ∧ s = [] ∧ c = [] := by simpa [bareF, numsK, textsK, clocksK, valuesK, Val.nv, Val.mv, Val.sv, Val.cv, Val.vv, List.length_eq_zero_iff, and_assoc] using hb
 refine ⟨this.1, this.2.1, this.2.2.1, this.2.2.2, ?_⟩
 match w, h2 with
 | [x, y], h2 =>
  simp only [Val.vv, isVL, List.headD_cons, List.tail_cons, Bool.and_eq_true] at h2
  exact ⟨x, y, rfl, h2.1, h2.2⟩
 | [], h2 => cases h2
 | [_], h2 => cases h2
 | _ :: _ :: _ :: _, h2 => cases h2
theorem cod_two {s1 s2 : Sch} (h1 : Cod (valueM s1) (valB s1) (isOk s1) (fun v => isVF s1 v = true)) (h2 : Cod (valueM s2) (valB s2) (isOk s2) (fun v => isVF s2 v = true)) : Cod (valueM (.mk 5 [s1, s2])) (valB (.mk 5 [s1, s2])) (isOk (.mk 5 [s1, s2])) (fun v => isVF (.mk 5 [s1, s2]) v = true) := by
 have e1 : valueM (.mk 5 [s1, s2]) = pairM (valueM s1) (valueM s2) := by rw [valueM, kindM, if_neg (by omega), if_neg (by omega), if_pos rfl, valueMs, valueMs]; rfl
 have e2 : valB (.mk 5 [s1, s2]) = pairB (valB s1) (valB s2) := by rw [valB, kindB, if_neg (by omega), if_neg (by omega), if_pos rfl, valBs, valBs]; rfl
 rw [e1, e2]
 refine (h1.pair h2).iso (fun x => .mk 0 0 [] [] [x.1, x.2]) (fun v => (v.vv.headD noV, v.vv.tail.headD noV)) (fun r => ⟨rfl, fun _ => rfl⟩) (fun v h => ?_) (fun x h => ⟨?_, rfl⟩)
 ·obtain ⟨n, m, s, c, w⟩ := v
  obtain ⟨rfl, rfl, rfl, rfl, x, y, rfl, q1, q2⟩ := bare_pair h.1
  have ho := ok_vals h.2
  exact ⟨⟨⟨q1, ho x (by simp)⟩, q2, ho y (by simp)⟩, rfl, rfl⟩
 ·obtain ⟨-, -, -, -, y, z, e, q1, q2⟩ := bare_pair h
  simp only [List.cons.injEq, and_true] at e
  obtain ⟨rfl, rfl⟩ := e
  exact ⟨q1, q2⟩
theorem bare_last {ins : List Sch} {n m : Int} {s : List Bs} {c : List (List Tk)} {w : List Val} (h : isVF (.mk 6 ins) (.mk n m s c w) = true) : c = [] ∧ w = [] ∧ ((s = [] ∧ n = 0 ∧ m = 0) ∨ ∃ t, s = [t] ∧ t.length ≤ 16) := by
 rw [isVF, isB] at h
 simp only [Bool.and_eq_true] at h
 have hb := h.1.1.1
 have h2 := h.2
 rw [if_neg (by decide), if_neg (by decide), if_neg (by decide), if_neg (by decide), if_neg (by decide), if_pos trivial] at h2
 have : c = [] ∧ w = [] := by simpa [bareF, numsK, textsK, clocksK, valuesK, Val.nv, Val.mv, Val.sv, Val.cv, Val.vv, List.length_eq_zero_iff, and_assoc] using hb
 refine ⟨this.1, this.2, ?_⟩
 match s, h2 with
 | [], h2 => simp only [Val.nv, Val.mv, Val.sv, isLastF, Bool.and_eq_true, beq_iff_eq] at h2; exact .inl ⟨rfl, h2.1, h2.2⟩
 | [t], h2 => simp only [Val.nv, Val.mv, Val.sv, isLastF, Bool.and_eq_true, decide_eq_true_eq] at h2; exact .inr ⟨t, rfl, h2.1⟩
 | _ :: _ :: _, h2 => cases h2
theorem cod_tail : Cod (pairR numM (pairR numM textM)) (fun x => numB x.1 ++ (numB x.2.1 ++ textB x.2.2)) (fun x => x.1 < 18446744073709551616 ∧ x.2.1 < 18446744073709551616 ∧ x.2.2.length ≤ 16) (fun x => True ∧ True ∧ True) := cod_num.pair (cod_num.pair cod_text)
theorem last_tail {b l : Bs} (h : numM (b, none) = (1, (l, none))) : lastM (b, none) = (.mk ((pairR numM (pairR numM textM) (l, none)).1.1 : Int) ((pairR numM (pairR numM textM) (l, none)).1.2.1 : Int) [(pairR numM (pairR numM textM) (l, none)).1.2.2] [] [], (pairR numM (pairR numM textM) (l, none)).2) := by
 unfold lastM
 rw [h]
 rfl
theorem cod_last (ins : List Sch) : Cod (valueM (.mk 6 ins)) (valB (.mk 6 ins)) (isOk (.mk 6 ins)) (fun v => isVF (.mk 6 ins) v = true) := by
 have e1 : valueM (.mk 6 ins) = lastM := by rw [valueM, kindM, if_neg (by omega), if_neg (by omega), if_neg (by omega), if_pos rfl]
 have e2 : valB (.mk 6 ins) = lastB := by rw [valB, kindB, if_neg (by omega), if_neg (by omega), if_neg (by omega), if_pos rfl]
 rw [e1, e2]
 refine ⟨fun b e => rfl, fun v rest h => ?_, fun v p q h e hq => ?_, fun b v rest h hv => ?_⟩
 ·obtain ⟨n, m, s, c, w⟩ := v
  have ho := h.2
  rw [okV] at ho
  obtain ⟨rfl, rfl, ⟨rfl, rfl, rfl⟩ | ⟨t, rfl, ht⟩⟩ := bare_last h.1
  ·have h1 := zL4 0 rest (by decide)
   have hb : lastB (.mk 0 0 [] [] []) ++ rest = numB 0 ++ rest := by simp [lastB, Val.sv]
   rw [hb]
   unfold lastM
   rw [h1]
   rfl
  ·have hb : lastB (.mk n m [t] [] []) ++ rest = numB 1 ++ ((numB n.toNat ++ (numB m.toNat ++ textB t)) ++ rest) := by
    simp [lastB, Val.sv, Val.nv, Val.mv]
   have h1 := zL4 1 ((numB n.toNat ++ (numB m.toNat ++ textB t)) ++ rest) (by decide)
   have h2 := cod_tail.rt (n.toNat, m.toNat, t) rest ⟨(by show n.toNat < _; omega), (by show m.toNat < _; omega), ht⟩
   rw [hb, last_tail h1, h2]
   simp only
   rw [Int.toNat_of_nonneg (by omega), Int.toNat_of_nonneg (by omega)]
 ·obtain ⟨n, m, s, c, w⟩ := v
  have ho := h.2
  rw [okV] at ho
  obtain ⟨rfl, rfl, ⟨rfl, rfl, rfl⟩ | ⟨t, rfl, ht⟩⟩ := bare_last h.1
  ·have e' : numB 0 = p ++ q := by simpa [lastB, Val.sv] using e
   unfold lastM
   rw [num_short (by decide) e' hq]
   rfl
  ·have e' : numB 1 ++ (numB n.toNat ++ (numB m.toNat ++ textB t)) = p ++ q := by simpa [lastB, Val.sv, Val.nv, Val.mv] using e
   rcases cut_two e' hq with ⟨q', e1, hq'⟩ | ⟨p', e1, e2⟩
   ·unfold lastM
    rw [num_short (by decide) e1 hq']
    rfl
   ·subst e1
    rw [last_tail (zL4 1 p' (by decide))]
    exact cod_tail.sh (n.toNat, m.toNat, t) p' q ⟨(by show n.toNat < _; omega), (by show m.toNat < _; omega), ht⟩ e2 hq
 ·rcases num_cases b with ⟨e, hn⟩ | ⟨x, l, hn⟩
  ·unfold lastM at h
   rw [hn] at h
   simp at h
  ·have hb := (num_one hn).1
   by_cases h0 : x = 0
   ·subst h0
    unfold lastM at h
    rw [hn] at h
    simp only [if_true, Prod.mk.injEq, and_true] at h
    obtain ⟨rfl, rfl⟩ := h
    rw [hb]
    simp [lastB, noV, Val.sv]
   ·by_cases h1 : x = 1
    ·subst h1
     rw [last_tail hn] at h
     injection h with h1 h2
     subst h1
     have := cod_tail.un l (pairR numM (pairR numM textM) (l, none)).1 rest (Prod.ext rfl h2) ⟨trivial, trivial, trivial⟩
     generalize (pairR numM (pairR numM textM) (l, none)).1 = q at this ⊢
     rw [hb, this]
     simp [lastB, Val.sv, Val.nv, Val.mv]
    ·unfold lastM at h
     rw [hn] at h
     simp [h0, h1, fail_ok] at h
theorem bare_one {ins : List Sch} {n m : Int} {s : List Bs} {c : List (List Tk)} {w : List Val} (h : isVF (.mk 7 ins) (.mk n m s c w) = true) : n = 0 ∧ m = 0 ∧ s = [] ∧ w = [] ∧ (c = [] ∨ ∃ x, c = [x] ∧ x.length ≠ 0 ∧ isClockF x = true) := by
 rw [isVF, isB] at h
 simp only [Bool.and_eq_true] at h
 have hb := h.1.1.1
 have h2 := h.2
 rw [if_neg (by decide), if_neg (by decide), if_neg (by decide), if_neg (by decide), if_neg (by decide), if_neg (by decide), if_pos trivial] at h2
 have : n = 0 ∧ m = 0 ∧ s = [] ∧ w = [] := by simpa [bareF, numsK, textsK, clocksK, valuesK, Val.nv, Val.mv, Val.sv, Val.cv, Val.vv, List.length_eq_zero_iff, and_assoc] using hb
 refine ⟨this.1, this.2.1, this.2.2.1, this.2.2.2, ?_⟩
 match c, h2 with
 | [], h2 => exact .inl rfl
 | [x], h2 => simp only [Val.cv, Bool.and_eq_true, decide_eq_true_eq] at h2; exact .inr ⟨x, rfl, by omega, h2.2⟩
 | _ :: _ :: _, h2 => cases h2
theorem cod_one (ins : List Sch) : Cod (valueM (.mk 7 ins)) (valB (.mk 7 ins)) (isOk (.mk 7 ins)) (fun v => isVF (.mk 7 ins) v = true) := by
 have e1 : valueM (.mk 7 ins) = oneClockM := by rw [valueM, kindM, if_neg (by omega), if_neg (by omega), if_neg (by omega), if_neg (by omega), if_pos rfl]
 have e2 : valB (.mk 7 ins) = oneB := by rw [valB, kindB, if_neg (by omega), if_neg (by omega), if_neg (by omega), if_neg (by omega), if_pos rfl]
 rw [e1, e2]
 refine cod_clock.iso (fun c => .mk 0 0 [] (if c.length = 0 then [] else [c]) []) (fun v => v.cv.headD []) (fun r => ⟨rfl, fun _ => rfl⟩) (fun v h => ?_) (fun c h => ⟨fun _ _ => trivial, ?_⟩)
 ·obtain ⟨n, m, s, c, w⟩ := v
  have ho := h.2
  rw [okV] at ho
  obtain ⟨rfl, rfl, rfl, rfl, rfl | ⟨x, rfl, hx, hc⟩⟩ := bare_one h.1
  ·exact ⟨⟨by simp [Val.cv], by simp [Val.cv]⟩, rfl, rfl⟩
  ·obtain ⟨h1, h2⟩ := clk_who hc
   refine ⟨⟨h1, fun t ht => ⟨h2 t ht, ho.2.2.1 x (by simp) t ht⟩⟩, ?_, rfl⟩
   show Val.mk 0 0 [] (if x.length = 0 then [] else [x]) [] = _
   rw [if_neg hx]
 ·by_cases h0 : c.length = 0
  ·rw [if_pos h0, List.length_eq_zero_iff.1 h0]
   rfl
  ·rw [if_neg h0]
   rfl
theorem bare_sibs {s1 : Sch} {n m : Int} {s : List Bs} {c : List (List Tk)} {w : List Val} (h : isVF (.mk 8 [s1]) (.mk n m s c w) = true) : n = 0 ∧ m = 0 ∧ s = [] ∧ c.length = w.length ∧ (c.length ≤ 40 ∧ ∀ x ∈ c, isClockF x = true) ∧ ∀ x ∈ w, isVF s1 x = true := by
 rw [isVF, isB] at h
 simp only [Bool.and_eq_true] at h
 have hb := h.1.1.1
 have hc := h.1.2
 have h2 := h.2
 rw [if_neg (by decide), if_neg (by decide), if_neg (by decide), if_neg (by decide), if_neg (by decide), if_neg (by decide), if_neg (by decide)] at h2
 simp only [Bool.and_eq_true, decide_eq_true_eq, List.all_eq_true, isVL, List.headD_cons] at h2 hc
 have : n = 0 ∧ m = 0 ∧ s = [] := by simpa [bareF, numsK, textsK, clocksK, valuesK, Val.nv, Val.mv, Val.sv, Val.cv, Val.vv, List.length_eq_zero_iff, and_assoc] using hb
 exact ⟨this.1, this.2.1, this.2.2, h2.1.1, ⟨hc, cause_mem h2.1.2⟩, h2.2⟩
theorem cod_sibs {s1 : Sch} (h1 : Cod (valueM s1) (valB s1) (isOk s1) (fun v => isVF s1 v = true)) : Cod (valueM (.mk 8 [s1])) (valB (.mk 8 [s1])) (isOk (.mk 8 [s1])) (fun v => isVF (.mk 8 [s1]) v = true) := by
 have e1 : valueM (.mk 8 [s1]) = sibsM (valueM s1) := by rw [valueM, kindM, if_neg (by omega), if_neg (by omega), if_neg (by omega), if_neg (by omega), if_neg (by omega), valueMs]; rfl
 have e2 : valB (.mk 8 [s1]) = sibsB (valB s1) := by rw [valB, kindB, if_neg (by omega), if_neg (by omega), if_neg (by omega), if_neg (by omega), if_neg (by omega), valBs]; rfl
 rw [e1, e2]
 refine (cod_row (cod_clock.pair h1)).iso (fun l => .mk 0 0 [] (l.map (·.1)) (l.map (·.2))) (fun v => v.cv.zip v.vv) (fun r => ?_) (fun v h => ?_) (fun l h => ⟨?_, ?_⟩)
 ·obtain ⟨q1, q2⟩ := rowC_zip clockM (valueM s1) r
  refine ⟨q1, fun hn => ?_⟩
  obtain ⟨q3, q4⟩ := q2 hn
  show Val.mk 0 0 [] (rowC (seqM clockM (valueM s1)) r []).2.2 (rowC (seqM clockM (valueM s1)) r []).1 = _
  rw [q3, q4]
 ·obtain ⟨n, m, s, c, w⟩ := v
  obtain ⟨rfl, rfl, rfl, hl, hs, hw⟩ := bare_sibs h.1
  obtain ⟨z1, z2⟩ := zip_fst hl
  have ho := h.2
  rw [okV] at ho
  refine ⟨⟨(zip_len hl).symm ▸ hs.1, fun x hx => ?_⟩, ?_, rfl⟩
  ·have hx2 : x.2 ∈ w := by rw [← z2]; exact List.mem_map.2 ⟨x, hx, rfl⟩
   have hx1 : x.1 ∈ c := by rw [← z1]; exact List.mem_map.2 ⟨x, hx, rfl⟩
   obtain ⟨g1, g2⟩ := clk_who (hs.2 _ hx1)
   exact ⟨⟨g1, fun t ht => ⟨g2 t ht, ho.2.2.1 _ hx1 t ht⟩⟩, hw _ hx2, ok_vals h.2 _ hx2⟩
  ·show Val.mk 0 0 [] ((c.zip w).map (·.1)) ((c.zip w).map (·.2)) = _
   rw [z1, z2]
 ·obtain ⟨-, -, -, -, -, hw⟩ := bare_sibs h
  exact fun x hx => ⟨fun _ _ => trivial, hw _ (List.mem_map.2 ⟨x, hx, rfl⟩)⟩
 ·show rowB (sibB (valB s1)) ((l.map (·.1)).zip (l.map (·.2))) = _
  rw [zip_back]
  rfl
theorem kinds {k : Int} {ins : List Sch} (h : partsF k = (ins.length : Int)) : ((k = 1 ∨ k = 2) ∧ ins = []) ∨ (k = 3 ∧ ins = []) ∨ (k = 6 ∧ ins = []) ∨ (k = 7 ∧ ins = []) ∨ (∃ s, k = 4 ∧ ins = [s]) ∨ (∃ s, k = 8 ∧ ins = [s]) ∨ ∃ s t, k = 5 ∧ ins = [s, t] := by
 have hz : ∀ {l : List Sch}, ((0 : Int) = (l.length : Int)) → l = [] := fun e => List.eq_nil_of_length_eq_zero (by omega)
 have ho : ∀ {l : List Sch}, ((1 : Int) = (l.length : Int)) → ∃ s, l = [s] := fun e => List.length_eq_one_iff.1 (by omega)
 have ht : ∀ {l : List Sch}, ((2 : Int) = (l.length : Int)) → ∃ s t, l = [s, t] := fun {l} e => by
  match l, e with
  | [a, b], _ => exact ⟨a, b, rfl⟩
  | [], e => simp at e
  | [_], e => simp at e
  | _ :: _ :: _ :: _, e => simp at e; omega
 unfold partsF at h
 split at h
 ·rename_i hk
  have := hz h
  rcases hk with hk | hk | hk | hk | hk
  ·exact .inl ⟨.inl hk, this⟩
  ·exact .inl ⟨.inr hk, this⟩
  ·exact .inr (.inl ⟨hk, this⟩)
  ·exact .inr (.inr (.inl ⟨hk, this⟩))
  ·exact .inr (.inr (.inr (.inl ⟨hk, this⟩)))
 ·split at h
  ·rename_i hk
   obtain ⟨s, hs⟩ := ho h
   rcases hk with hk | hk
   ·exact .inr (.inr (.inr (.inr (.inl ⟨s, hk, hs⟩))))
   ·exact .inr (.inr (.inr (.inr (.inr (.inl ⟨s, hk, hs⟩)))))
  ·split at h
   ·rename_i hk
    obtain ⟨s, t, hs⟩ := ht h
    exact .inr (.inr (.inr (.inr (.inr (.inr ⟨s, t, hk, hs⟩)))))
   ·omega
theorem cod_value : ∀ (d : Nat) (s : Sch), isF d s = true → Cod (valueM s) (valB s) (isOk s) (fun v => isVF s v = true)
 | 0, s, h => by simp [isF] at h
 | d + 1, .mk k ins, h => by
  simp only [isF, Bool.and_eq_true, beq_iff_eq, List.all_eq_true] at h
  rcases kinds h.1 with ⟨hk, rfl⟩ | ⟨rfl, rfl⟩ | ⟨rfl, rfl⟩ | ⟨rfl, rfl⟩ | ⟨s, rfl, rfl⟩ | ⟨s, rfl, rfl⟩ | ⟨s, t, rfl, rfl⟩
  ·exact cod_nums hk []
  ·exact cod_set []
  ·exact cod_last []
  ·exact cod_one []
  ·exact cod_map (cod_value d s (h.2 s (by simp)))
  ·exact cod_sibs (cod_value d s (h.2 s (by simp)))
  ·exact cod_two (cod_value d s (h.2 s (by simp))) (cod_value d t (h.2 t (by simp)))
end
end Go.Proofs.YtplclefbiimnbaaGreat
namespace Go.MV
open Go Go.RowKit Go.ChangeShapes Go.WideShapes Go.Deep
section
def g0 (W : World) : Gh := { B := W.heap.size, w0 := W, st := fun b => match W.heap[b]? with | some (.cells c _ _) => c.size | _ => 0, bk := fun _ => none, lg := fun _ _ => none }
theorem rel0 (W : World) : Rel (g0 W) [] W := by
 refine ⟨.refl _ _, Nat.le_refl _, fun b hb => ?_, fun _ _ => rfl, fun _ _ _ => rfl, fun _ => none, ⟨fun id o h => (by simp at h), fun i j b h => (by cases h), fun id b h => (by cases h)⟩⟩
 show (match W.heap[b]? with | some (.cells c _ _) => c.size | _ => 0) = 0
 rw [Array.getElem?_eq_none hb]
theorem stab0 {W : World} {ad : Addr} {k : Nat} {v : Value} (h : W.cell? (ad.add k) = some v) (h1 : v.oneCell' = true) : Stab (g0 W) W ad k v := by
 refine ⟨?_, h, h1⟩
 have e := cell_spot h
 rw [e] at h
 show _ < (match W.heap[(ad.add k).block]? with | some (.cells c _ _) => c.size | _ => 0)
 unfold World.cell? at h
 split at h
 ·rename_i c t f hc
  simp only [Option.isSome_none, Bool.false_eq_true, if_false] at h
  simp only at hc
  rw [hc]
  exact (Array.getElem?_eq_some_iff.1 h).1
 ·cases h
def TyFs (T : TypeId → List MV → Prop) : List Field → List MV → Prop
 | [], l => l = []
 | f :: fs, l => ∃ a b, l = a ++ b ∧ T f.type a ∧ TyFs T fs b
def ElF (P : Program) (e : TypeId) (x : MV) : Prop := match P.underlying e with | some (.struct _) => x = .agg x.cells | _ => [x] = x.cells
def TyM (P : Program) : Nat → TypeId → List MV → Prop
 | 0, _, _ => False
 | n + 1, t, l =>
  match P.underlying t with
  | some (.int k) => ∃ v, l = [.int k v] ∧ (Lit.int k v).wf = true
  | some .bool => ∃ b, l = [.bool b]
  | some .string => ∃ s, l = [.str s] ∧ s.size ≤ maxLen
  | some (.slice e) => ∃ xs, l = [.lst none (P.cellsOf e) xs] ∧ ∀ x ∈ xs, x.cells.length = P.cellsOf e ∧ TyM P n e x.cells ∧ ElF P e x
  | some (.struct fs) => TyFs (TyM P n) fs.toList l
  | _ => False
def contig (P : Program) (size : Nat) : List Field → Nat → Bool
 | [], off => Nat.beq off size
 | f :: fs, off => Nat.beq f.offset off && contig P size fs (off + P.cellsOf f.type)
def okTypes (P : Program) (ts : List TypeId) : Bool :=
 ts.all fun t => match P.underlying t with
  | some (.int _) | some .bool | some .string => true
  | some (.slice e) => natMem e ts && (match P.underlying e with | some (.struct _) => true | _ => Nat.beq (P.cellsOf e) 1)
  | some (.struct fs) => fs.toList.all (fun f => natMem f.type ts) && contig P (P.cellsOf t) fs.toList 0
  | _ => false
mutual
def szM : MV → Nat
 | .str s => s.data.toList.length + 1
 | .lst _ _ xs => szMs xs + 1
 | .agg l => szMs l + 1
 | _ => 1
def szMs : List MV → Nat
 | [] => 0
 | x :: r => szM x + szMs r
end
theorem szMs_append : ∀ a b : List MV, szMs (a ++ b) = szMs a + szMs b
 | [], b => by simp [szMs]
 | x :: a, b => by rw [List.cons_append, szMs, szMs, szMs_append a b]; omega
theorem rds_of_fields {P : Program} {W : World} {T : TypeId → List MV → Prop} {cs : List Value} {size : Nat} (hlen : cs.length = size) : ∀ (fs : List Field) (off : Nat) (zs : List Nat), contig P size fs off = true →
  (∀ (i : Nat) (f : Field), fs[i]? = some f → ∃ l, Rds (g0 W) W l ((cs.drop f.offset).take (P.cellsOf f.type)) ∧ T f.type l ∧ l.length = P.cellsOf f.type ∧ (∀ y ∈ l, y.one = true) ∧ szMs l ≤ zs.getD i 0) → ∃ l, Rds (g0 W) W l (cs.drop off) ∧ TyFs T fs l ∧ (∀ y ∈ l, y.one = true) ∧ szMs l ≤ zs.sum
 | [], off, zs, hc, _ => by
  have := Nat.eq_of_beq_eq_true hc
  refine ⟨[], ?_, rfl, (fun y hy => by cases hy), by simp [szMs]⟩
  rw [List.drop_eq_nil_of_le (by omega)]
  exact .nil _ _
 | f :: fs, off, zs, hc, h => by
  simp only [contig, Bool.and_eq_true] at hc
  have ho := Nat.eq_of_beq_eq_true hc.1
  obtain ⟨a, h1, h2, h3, h5, h6⟩ := h 0 f rfl
  obtain ⟨b, k1, k2, k3, k4⟩ := rds_of_fields hlen fs _ zs.tail hc.2 (fun i f' hf' => by
   obtain ⟨l, g1, g2, g3, g4, g5⟩ := h (i + 1) f' (by simpa using hf')
   exact ⟨l, g1, g2, g3, g4, by cases zs <;> simpa using g5⟩)
  refine ⟨a ++ b, ?_, ⟨a, b, rfl, h2, k2⟩, fun y hy => (zX1.1 hy).elim (h5 y) (k3 y), ?_⟩
  ·have e : cs.drop off = (cs.drop off).take (P.cellsOf f.type) ++ cs.drop (off + P.cellsOf f.type) := by
    rw [← List.drop_drop, List.take_append_drop]
   rw [e]
   rw [ho] at h1
   exact h1.append k1
  ·rw [szMs_append]
   cases zs with
   | nil =>
    have h6 : szMs a ≤ 0 := by simpa using h6
    have k4 : szMs b ≤ 0 := by simpa using k4
    simp
    omega
   | cons z zs =>
    have h6 : szMs a ≤ z := by simpa using h6
    have k4 : szMs b ≤ zs.sum := by simpa using k4
    rw [List.sum_cons]
    omega
theorem tyFs_mono {T T' : TypeId → List MV → Prop} (h : ∀ t l, T t l → T' t l) : ∀ (fs : List Field) (l : List MV), TyFs T fs l → TyFs T' fs l
 | [], l, hl => hl
 | f :: fs, l, ⟨a, b, e, h1, h2⟩ => ⟨a, b, e, h _ _ h1, tyFs_mono h fs b h2⟩
theorem tyM_succ {P : Program} : ∀ (n : Nat) (t : TypeId) (l : List MV), TyM P n t l → TyM P (n + 1) t l
 | 0, t, l, h => h.elim
 | n + 1, t, l, h => by
  unfold TyM at h ⊢
  split at h
  ·rename_i k hu; exact h
  ·rename_i hu; exact h
  ·rename_i hu; exact h
  ·rename_i e hu
   obtain ⟨xs, h1, h2⟩ := h
   exact ⟨xs, h1, fun x hx => ⟨(h2 x hx).1, tyM_succ n _ _ (h2 x hx).2.1, (h2 x hx).2.2⟩⟩
  ·rename_i fs hu; exact tyFs_mono (tyM_succ n) _ _ h
  ·exact h.elim
theorem tyM_le {P : Program} {n m : Nat} (h : n ≤ m) {t : TypeId} {l : List MV} (ht : TyM P n t l) : TyM P m t l := by
 obtain ⟨d, rfl⟩ := Nat.le.dest h
 induction d with
 | zero => exact ht
 | succ d ih => exact tyM_succ _ _ _ (ih (by omega))
section
variable {H : Type} {enc : TypeId × Value → H} {P : Program} {W : World} {base : Nat} {spare : Nat → Bool} {held : Bool}
theorem common_bound {α : Type} {p : Nat → α → Prop} (hm : ∀ n m a, n ≤ m → p n a → p m a) : ∀ (l : List α), (∀ a ∈ l, ∃ n, p n a) → ∃ n, ∀ a ∈ l, p n a
 | [], _ => ⟨0, fun a h => by cases h⟩
 | a :: l, h => by
  obtain ⟨n, hn⟩ := h a (zP0 ..)
  obtain ⟨m, hm'⟩ := common_bound hm l (fun b hb => h b (zM0 _ hb))
  refine ⟨max n m, fun b hb => ?_⟩
  rcases List.mem_cons.1 hb with rfl | hb
  ·exact hm _ _ _ (by omega) hn
  ·exact hm _ _ _ (by omega) (hm' b hb)
mutual
def dBulk : DataW H → Nat
 | .lit (.string b) => b.length + 1
 | .slice es _ => dBulkAll es + 1
 | .agg ps => dBulkAll ps + 1
 | _ => 1
def dBulkAll : List (DataW H) → Nat
 | [] => 0
 | d :: r => dBulk d + dBulkAll r
end
theorem dBulkAll_eq : ∀ l : List (DataW H), dBulkAll l = (l.map dBulk).sum
 | [] => rfl
 | d :: r => by rw [dBulkAll, dBulkAll_eq r]; rfl
theorem reads_gen {ts : List TypeId} (hok : okTypes P ts = true) : ∀ (n : Nat) (x : DataW H × List MemPlace) (fuel : Nat) (t : TypeId) (cs : List Value), SizeOf.sizeOf x.1 ≤ n → t ∈ ts → DataW.trod enc P W base spare held fuel t cs = some x →
  ∃ (l : List MV) (m : Nat), Rds (g0 W) W l cs ∧ TyM P m t l ∧ (∀ y ∈ l, y.one = true) ∧ szMs l + (match P.underlying t with | some (.struct _) => 1 | _ => 0) ≤ dBulk x.1 := by
 intro n
 induction n using Nat.strongRecOn with
 | _ n ih =>
 intro x fuel t cs hx ht h
 have hot : (match P.underlying t with
  | some (.int _) | some .bool | some .string => true
  | some (.slice e) => natMem e ts && (match P.underlying e with | some (.struct _) => true | _ => Nat.beq (P.cellsOf e) 1)
  | some (.struct fs) => fs.toList.all (fun f => natMem f.type ts) && contig P (P.cellsOf t) fs.toList 0
  | _ => false) = true := by
  simp only [okTypes, List.all_eq_true] at hok
  exact hok t ht
 split at hot
 ·rename_i k hu
  obtain ⟨v, rfl, rfl, hwf⟩ := DataW.trod_int hu h
  refine ⟨[.int k v], 1, .cons (.int _ _) (.nil _ _), ?_, by simp [MV.one], by rw [hu]; simp [szMs, szM, dBulk]⟩
  unfold TyM
  rw [hu]
  exact ⟨v, rfl, hwf⟩
 ·rename_i hu
  obtain ⟨b, rfl, rfl⟩ := DataW.trod_bool hu h
  refine ⟨[.bool b], 1, .cons (.bool _) (.nil _ _), ?_, by simp [MV.one], by rw [hu]; simp [szMs, szM, dBulk]⟩
  unfold TyM
  rw [hu]
  exact ⟨b, rfl⟩
 ·rename_i hu
  obtain ⟨s, rfl, rfl, hs⟩ := DataW.trod_string hu h
  refine ⟨[.str s], 1, .cons (.str _) (.nil _ _), ?_, by simp [MV.one], by rw [hu]; simp [szMs, szM, dBulk]⟩
  unfold TyM
  rw [hu]
  exact ⟨s, rfl, hs⟩
 ·rename_i e hu
  simp only [Bool.and_eq_true] at hot
  have he : e ∈ ts := natMem_iff.1 hot.1
  rcases open_slice hu h with ⟨rfl, rfl⟩ | ⟨a, len, cap, m, n', D, Pl, rfl, hb, hl, hm, hmm, rfl, hi⟩
  ·refine ⟨[.lst none (P.cellsOf e) []], 1, .cons (Sub.nil _ _ _ _ .lst0) (.nil _ _), ?_, by simp [MV.one], by rw [hu]; simp [szMs, szM, dBulk]⟩
   unfold TyM
   rw [hu]
   exact ⟨[], rfl, fun x hx => by cases hx⟩
  ·have hlm : len ≤ m := by rw [hmm]; split <;> omega
   have hel : ∀ i, i < len → ∃ (l : List MV) (k : Nat) (us : List Value), us.length = P.cellsOf e ∧ Rds (g0 W) W l us ∧ TyM P k e l ∧ ((∀ y ∈ l, y.one = true) ∧ szMs l + (match P.underlying e with | some (.struct _) => 1 | _ => 0) ≤ dBulk (D i)) ∧ ∀ j, j < P.cellsOf e → W.cell? ((a.add (i * P.cellsOf e)).add j) = us[j]? := by
    intro i hil
    obtain ⟨cs', hc, ht'⟩ := hi i (by omega)
    obtain ⟨_, hlen, hcell⟩ := World.cells?_some hc
    have hsz : SizeOf.sizeOf (D i) < n := by
     have hmem : D i ∈ (List.range len).map D := List.mem_map.2 ⟨i, List.mem_range.2 hil, rfl⟩
     have := List.sizeOf_lt_of_mem hmem
     simp only [DataW.slice.sizeOf_spec] at hx
     omega
    obtain ⟨l, k, h1, h2, h3⟩ := ih _ hsz (D i, Pl i) n' e cs' (Nat.le_refl _) he ht'
    exact ⟨l, k, cs', hlen, h1, h2, h3, hcell⟩
   have hall : ∀ (N : Nat), N ≤ len → ∃ (xs : List MV) (us : List Value) (k : Nat), xs.length = N ∧ us.length = N * P.cellsOf e ∧ Rds (g0 W) W (flat xs) us ∧ (∀ y ∈ flat xs, y.one = true) ∧ (∀ x ∈ xs, x.cells.length = P.cellsOf e ∧ TyM P k e x.cells ∧ ElF P e x) ∧
     (∀ j, j < N * P.cellsOf e → W.cell? (a.add j) = us[j]?) ∧ szMs xs ≤ (((List.range N).map D).map dBulk).sum := by
    intro N
    induction N with
    | zero => exact fun _ => ⟨[], [], 0, rfl, by simp, .nil _ _, by simp [flat], by simp, by simp, by simp [szMs]⟩
    | succ N ihN =>
     intro hN
     obtain ⟨xs, us, k, q1, q2, q3, q4, q5, q6, q7⟩ := ihN (by omega)
     obtain ⟨l, k', us', r1, r2, r3, ⟨r4, r6⟩, r5⟩ := hel N (by omega)
     have hll : l.length = P.cellsOf e := by rw [← r2.1, r1]
     obtain ⟨y, hy1, hy2, hy3⟩ : ∃ y : MV, y.cells = l ∧ ElF P e y ∧ szM y ≤ dBulk (D N) := by
      cases hue : P.underlying e with
      | none => 
       have hk1 : P.cellsOf e = 1 := by have := hot.2; rw [hue] at this; exact Nat.eq_of_beq_eq_true this
       match l, hll.trans hk1 with
       | [y], _ =>
        have := r4 y (zP0 ..)
        simp only [ElF, hue]
        rw [hue] at r6
        have r7 : szM y ≤ dBulk (D N) := by simpa [szMs] using r6
        refine ⟨y, ?_, ?_, r7⟩ <;> (cases y <;> first | rfl | (cases this; done))
      | some d =>
       cases d with
       | struct fs =>
        rw [hue] at r6
        exact ⟨.agg l, rfl, by simp only [ElF, hue]; rfl, r6⟩
       | _ =>
        have hk1 : P.cellsOf e = 1 := by have := hot.2; rw [hue] at this; exact Nat.eq_of_beq_eq_true this
        match l, hll.trans hk1 with
        | [y], _ =>
         have := r4 y (zP0 ..)
         simp only [ElF, hue]
         rw [hue] at r6
         have r7 : szM y ≤ dBulk (D N) := by simpa [szMs] using r6
         refine ⟨y, ?_, ?_, r7⟩ <;> (cases y <;> first | rfl | (cases this; done))
     refine ⟨xs ++ [y], us ++ us', max k k', by simp [q1], by rw [zF, q2, r1, Nat.add_mul]; omega, ?_, ?_, ?_, ?_, by rw [szMs_append, List.range_succ, List.map_append, List.map_append, List.sum_append, show ((([N] : List Nat).map D).map dBulk).sum = dBulk (D N) by simp, show szMs [y] = szM y by simp [szMs]]; omega⟩
     ·rw [flat_append]
      refine q3.append ?_
      simp only [flat, List.flatMap_cons, List.flatMap_nil, List.append_nil, hy1]
      exact r2
     ·intro z hz
      rw [flat_append, zX1] at hz
      rcases hz with hz | hz
      ·exact q4 z hz
      ·simp only [flat, List.flatMap_cons, List.flatMap_nil, List.append_nil, hy1] at hz
       exact r4 z hz
     ·intro x hx
      rcases zX1.1 hx with hx | hx
      ·exact ⟨(q5 x hx).1, tyM_le (by omega) (q5 x hx).2.1, (q5 x hx).2.2⟩
      ·simp at hx
       subst hx
       rw [hy1]
       exact ⟨hll, tyM_le (by omega) r3, hy2⟩
     ·intro j hj
      rw [Nat.add_mul, Nat.one_mul] at hj
      by_cases hjl : j < N * P.cellsOf e
      ·rw [List.getElem?_append_left (by omega)]
       exact q6 j hjl
      ·rw [List.getElem?_append_right (by omega), q2, ← r5 (j - N * P.cellsOf e) (by omega), Go.MV.add_add]
       congr 2
       omega
   obtain ⟨xs, us, k, q1, q2, q3, q4, q5, q6, q7⟩ := hall len (Nat.le_refl _)
   refine ⟨[.lst none (P.cellsOf e) xs], k + 1, .cons (.lst' q1 hl hm (fun x hx => (q5 x hx).1) q3 (fun j u hu => ⟨a, rfl, stab0 ?_ ?_⟩) (fun t ht => by cases ht)) (.nil _ _), ?_, by simp [MV.one], by rw [hu]; simp only [szMs, szM, dBulk, dBulkAll_eq]; omega⟩
   ·have hj : j < us.length := (zI.1 hu).1
    rw [q6 j (by omega)]
    exact hu
   ·have hj : j < us.length := (zI.1 hu).1
    have hjf : j < (flat xs).length := by rw [← q3.1]; exact hj
    exact one_cell (q3.2 j _ u (zD hjf) hu) (q4 _ (List.getElem_mem hjf))
   ·unfold TyM
    rw [hu]
    exact ⟨xs, rfl, q5⟩
 ·rename_i fs hu
  simp only [Bool.and_eq_true, List.all_eq_true] at hot
  obtain ⟨xs, n', rfl, rfl, hlen, hxl, hf⟩ := DataW.trod_struct hu h
  have hfld : ∀ (i : Nat) (f : Field), fs.toList[i]? = some f → ∃ (k : Nat) (l : List MV), Rds (g0 W) W l ((cs.drop f.offset).take (P.cellsOf f.type)) ∧ TyM P k f.type l ∧ (∀ y ∈ l, y.one = true) ∧ szMs l ≤ ((xs.map (·.1)).map dBulk).getD i 0 := by
   intro i f hi
   have hfm := zU hi
   have hi' : fs[i]? = some f := by simpa using hi
   have hilt : i < xs.length := by rw [hxl]; exact (Array.getElem?_eq_some_iff.1 hi').1
   have htr := hf i f hi'
   rw [zD hilt] at htr
   have hsz : SizeOf.sizeOf xs[i].1 < n := by
    have hmem : xs[i].1 ∈ xs.map (·.1) := List.mem_map.2 ⟨xs[i], List.getElem_mem hilt, rfl⟩
    have := List.sizeOf_lt_of_mem hmem
    simp only [DataW.agg.sizeOf_spec] at hx
    omega
   obtain ⟨l, k, h1, h2, h3⟩ := ih _ hsz xs[i] n' f.type _ (Nat.le_refl _) (natMem_iff.1 (hot.1 f hfm)) htr
   refine ⟨k, l, h1, h2, h3.1, ?_⟩
   have : ((xs.map (·.1)).map dBulk).getD i 0 = dBulk xs[i].1 := by simp [hilt]
   rw [this]
   have := h3.2
   omega
  obtain ⟨K, hK⟩ := common_bound (p := fun k (q : Nat × Field) => ∃ l : List MV, Rds (g0 W) W l ((cs.drop q.2.offset).take (P.cellsOf q.2.type)) ∧ TyM P k q.2.type l ∧ (∀ y ∈ l, y.one = true) ∧ szMs l ≤ ((xs.map (·.1)).map dBulk).getD q.1 0) (fun a b f hab ⟨l, h1, h2, h3⟩ => ⟨l, h1, tyM_le hab h2, h3⟩) (fs.toList.zipIdx.map fun p => (p.2, p.1)) (fun q hq => by
   obtain ⟨p, hp, rfl⟩ := List.mem_map.1 hq
   exact hfld p.2 p.1 (List.mem_zipIdx_iff_getElem?.1 hp))
  replace hK : ∀ (i : Nat) (f : Field), fs.toList[i]? = some f → ∃ l : List MV, Rds (g0 W) W l ((cs.drop f.offset).take (P.cellsOf f.type)) ∧ TyM P K f.type l ∧ (∀ y ∈ l, y.one = true) ∧ szMs l ≤ ((xs.map (·.1)).map dBulk).getD i 0 := fun i f hi => hK (i, f) (List.mem_map.2 ⟨(f, i), List.mem_zipIdx_iff_getElem?.2 hi, rfl⟩)
  have hcont := hot.2
  have hlens : ∀ (gs : List Field) (off : Nat), contig P (P.cellsOf t) gs off = true → off ≤ P.cellsOf t ∧ ∀ f ∈ gs, f.offset + P.cellsOf f.type ≤ P.cellsOf t := by
   intro gs
   induction gs with
   | nil => exact fun off hc => ⟨Nat.le_of_eq (Nat.eq_of_beq_eq_true hc), fun f hf => by cases hf⟩
   | cons f gs ihg =>
    intro off hc
    simp only [contig, Bool.and_eq_true] at hc
    have ho := Nat.eq_of_beq_eq_true hc.1
    obtain ⟨h1, h2⟩ := ihg _ hc.2
    refine ⟨by omega, fun f' hf' => ?_⟩
    rcases List.mem_cons.1 hf' with rfl | hf'
    ·omega
    ·exact h2 f' hf'
  obtain ⟨l, h1, h2, h3⟩ := rds_of_fields (P := P) (W := W) (T := TyM P K) hlen fs.toList 0 ((xs.map (·.1)).map dBulk) hcont (fun i f hi => by
   obtain ⟨l, h1, h2, h3⟩ := hK i f hi
   refine ⟨l, h1, h2, ?_, h3⟩
   have := (hlens _ _ hcont).2 f (zU hi)
   rw [← h1.1, List.length_take, List.length_drop, hlen]
   omega)
  refine ⟨l, K + 1, by simpa using h1, ?_, h3.1, by rw [hu]; simp only [dBulk, dBulkAll_eq]; have := h3.2; omega⟩
  unfold TyM
  rw [hu]
  exact h2
 ·cases hot
end
section
variable {H : Type} {enc : TypeId × Value → H} {P : Program} {W : World} {base b0 : Nat} {spare : Nat → Bool} {held : Bool} {r : Reach}
theorem arg_structB {ts : List TypeId} (hok : okTypes P ts = true) {t : TypeId} {fs : Array Field} (ht : t ∈ ts) (hu : P.underlying t = some (.struct fs)) {v : Value} {d : DataW H} {p : List MemPlace} (hv : Value.okWide P W r b0 t v) (h : DataW.Trod enc P W base spare held t v d p) :
  ∃ (l : List MV) (m : Nat), Rd (g0 W) W (.agg l) v ∧ TyM P m t l ∧ szM (.agg l) ≤ dBulk d := by
 obtain ⟨cs, rfl, hsz⟩ := okWide_struct hu hv
 obtain ⟨fuel, hf⟩ := h
 obtain ⟨l, m, h1, h2, _, h3⟩ := reads_gen hok _ _ _ _ _ (Nat.le_refl _) ht hf
 rw [hu] at h3
 refine ⟨l, m, ?_, h2, h3⟩
 have := Rd.agg' h1
 simpa [Value.cells] using this
theorem arg_one {ts : List TypeId} (hok : okTypes P ts = true) {t : TypeId} (ht : t ∈ ts) {v : Value} {d : DataW H} {p : List MemPlace} (hv : v.cells = #[v]) (h : DataW.Trod enc P W base spare held t v d p) :
  ∃ (l : List MV) (m : Nat), Rds (g0 W) W l [v] ∧ TyM P m t l := by
 obtain ⟨fuel, hf⟩ := h
 rw [hv] at hf
 obtain ⟨l, m, h1, h2, _⟩ := reads_gen hok _ _ _ _ _ (Nat.le_refl _) ht hf
 exact ⟨l, m, h1, h2⟩
end
theorem law_calls {P : Program} {f : FuncId} {xs : List MV} {W : World} {vs : List Value} (h : MCalls P f xs [] fun v σ' => v = .bool true ∧ σ' = []) (hr : Rds (g0 W) W xs vs) : Calls P f vs.toArray W fun e w' => e = .returned (.bool true) ∧ Below W.heap.size W w' := by
 refine (callsIn_wide.1 (h (g0 W) W vs (rel0 W) hr)).mono ?_
 rintro e w' ⟨v, rfl, x, σ', g', ⟨rfl, rfl⟩, hrel, hrd, hle⟩
 rw [hrd.inv_bool]
 have := hrel.below
 rw [hle.B, hle.w0] at this
 exact ⟨rfl, this⟩
end
end Go.MV
namespace Go.MV
open Go Go.RowKit Go.WideShapes Go.ChangeShapes
section
section
variable {H : Type} {enc : TypeId × Value → H} {P : Program} {W : World} {base b0 : Nat} {spare : Nat → Bool} {held : Bool} {r : Reach} {ts : List TypeId} {t : TypeId} {v : Value} {d : DataW H} {p : List MemPlace}
theorem tyM_intK {k : IntKind} (hu : P.underlying t = some (.int k)) {n : Nat} {l : List MV} (h : TyM P n t l) : ∃ v, l = [.int k v] ∧ (Lit.int k v).wf = true := by
 cases n with
 | zero => exact h.elim
 | succ n => unfold TyM at h; rw [hu] at h; exact h
theorem tyM_str (hu : P.underlying t = some .string) {n : Nat} {l : List MV} (h : TyM P n t l) : ∃ s : Bs, l = [.str (bs s)] ∧ s.length ≤ maxLen := by
 cases n with
 | zero => exact h.elim
 | succ n =>
  unfold TyM at h; rw [hu] at h
  obtain ⟨s, rfl, hs⟩ := h
  exact ⟨strL s, by rw [bs_strL], by unfold strL; rw [Array.length_toList]; exact hs⟩
theorem tyM_slice {e : TypeId} (hu : P.underlying t = some (.slice e)) {n : Nat} {l : List MV} (h : TyM P n t l) : ∃ xs m, m + 1 = n ∧ l = [.lst none (P.cellsOf e) xs] ∧ ∀ x ∈ xs, x.cells.length = P.cellsOf e ∧ TyM P m e x.cells ∧ ElF P e x := by
 cases n with
 | zero => exact h.elim
 | succ n =>
  unfold TyM at h; rw [hu] at h
  obtain ⟨xs, h1, h2⟩ := h
  exact ⟨xs, n, rfl, h1, h2⟩
theorem tyM_struct {fs : Array Field} (hu : P.underlying t = some (.struct fs)) {n : Nat} {l : List MV} (h : TyM P n t l) : ∃ m, m + 1 = n ∧ TyFs (TyM P m) fs.toList l := by
 cases n with
 | zero => exact h.elim
 | succ n => unfold TyM at h; rw [hu] at h; exact ⟨n, rfl, h⟩
theorem all_enc {α : Type} {enc : α → MV} {q : α → Prop} : ∀ {xs : List MV}, (∀ x ∈ xs, ∃ a, x = enc a ∧ q a) → ∃ l : List α, xs = l.map enc ∧ ∀ a ∈ l, q a
 | [], _ => ⟨[], rfl, fun a h => by cases h⟩
 | x :: xs, h => by
  obtain ⟨l, rfl, hl⟩ := all_enc (fun y hy => h y (zM0 _ hy))
  obtain ⟨a, rfl, ha⟩ := h x (zP0 ..)
  refine ⟨a :: l, rfl, fun b hb => ?_⟩
  rcases List.mem_cons.1 hb with rfl | hb
  ·exact ha
  ·exact hl b hb
theorem rd_of_rds {g : Gh} {w : World} {m : MV} {v : Value} (h : Rds g w [m] [v]) : Rd g w m v := h.2 0 _ _ rfl rfl
theorem arg_int {k : IntKind} (hok : okTypes P ts = true) (ht : t ∈ ts) (hu : P.underlying t = some (.int k)) (hv : Value.okWide P W r b0 t v) (h : DataW.Trod enc P W base spare held t v d p) : ∃ n, Rd (g0 W) W (.int k n) v ∧ (Lit.int k n).wf = true := by
 obtain ⟨n, rfl⟩ := okWide_int hu hv
 obtain ⟨l, m, h1, h2⟩ := arg_one hok ht rfl h
 obtain ⟨n', rfl, hw⟩ := tyM_intK hu h2
 exact ⟨n', rd_of_rds h1, hw⟩
theorem arg_str (hok : okTypes P ts = true) (ht : t ∈ ts) (hu : P.underlying t = some .string) (hv : Value.okWide P W r b0 t v) (h : DataW.Trod enc P W base spare held t v d p) : ∃ s : Bs, Rd (g0 W) W (.str (bs s)) v ∧ s.length ≤ maxLen := by
 obtain ⟨n, rfl⟩ := okWide_string hu hv
 obtain ⟨l, m, h1, h2⟩ := arg_one hok ht rfl h
 obtain ⟨n', rfl, hw⟩ := tyM_str hu h2
 exact ⟨n', rd_of_rds h1, hw⟩
theorem el_str (hu : P.underlying t = some .string) (m : Nat) (x : MV) (h : TyM P m t x.cells) (he : ElF P t x) : ∃ a : Bs, x = .str (bs a) ∧ a.length ≤ maxLen := by
 obtain ⟨n, hn', hw⟩ := tyM_str hu h
 simp only [ElF, hu] at he
 rw [hn'] at he
 injection he with he
 exact ⟨n, he, hw⟩
theorem wf_h16 {n : Int} (h : (Lit.int .u16 n).wf = true) : ∃ m : Nat, n = (m : Int) ∧ m < 65536 := by
 simp [Lit.wf, IntKind.min, IntKind.max, IntKind.signed, IntKind.bits] at h
 exact ⟨n.toNat, by omega, by omega⟩
theorem wf_u64 {n : Int} (h : (Lit.int .u64 n).wf = true) : ∃ m : Nat, n = (m : Int) ∧ m < 18446744073709551616 := by
 simp [Lit.wf, IntKind.min, IntKind.max, IntKind.signed, IntKind.bits] at h
 exact ⟨n.toNat, by omega, by omega⟩
end
end
end Go.MV
namespace Go.Proofs.YtplclefbiimnbaaGreat
open Go Go.MV
theorem cells_tick : Tryz.prog.cellsOf 87 = 2 := by kernel_rfl
theorem tyM_tick {m : Nat} {l : List MV} (h : TyM Tryz.prog m 87 l) : ∃ a : Tk, MV.agg l = encT a ∧ (0 ≤ a.2 ∧ a.2 < 18446744073709551616) := by
 obtain ⟨m', _, h⟩ := tyM_struct zI5 h
 obtain ⟨a, _, rfl, h1, b, _, rfl, h2, rfl⟩ := h
 obtain ⟨w, rfl, _⟩ := tyM_intK zZ0 h1
 obtain ⟨n, rfl, hw⟩ := tyM_intK zB1 h2
 obtain ⟨k, rfl, hk⟩ := wf_u64 hw
 exact ⟨(w, k), rfl, by dsimp only; omega, by dsimp only; omega⟩
theorem el_tick (m : Nat) (x : MV) (_ : x.cells.length = Tryz.prog.cellsOf 87) (h : TyM Tryz.prog m 87 x.cells) (he : ElF Tryz.prog 87 x) : ∃ a : Tk, x = encT a ∧ (0 ≤ a.2 ∧ a.2 < 18446744073709551616) := by
 obtain ⟨a, e, ha⟩ := tyM_tick h
 simp only [ElF, zI5] at he
 exact ⟨a, he.trans e, ha⟩
theorem cellsV_str : Tryz.prog.cellsOf 9 = 1 := by kernel_rfl
theorem cellsV_clk : Tryz.prog.cellsOf 68 = 1 := by kernel_rfl
theorem cellsV_val : Tryz.prog.cellsOf 30 = 5 := by kernel_rfl
theorem tyM_val (n : Nat) : ∀ (l : List MV), TyM Tryz.prog n 30 l → ∃ x : Val, MV.agg l = encV x ∧ okV x := by
 induction n using Nat.strongRecOn with
 | _ n ih =>
 intro l h
 obtain ⟨n', rfl, h⟩ := tyM_struct zU1 h
 obtain ⟨a, _, rfl, h1, b, _, rfl, h2, c, _, rfl, h3, d, _, rfl, h4, e, _, rfl, h5, rfl⟩ := h
 obtain ⟨v1, rfl, w1⟩ := tyM_intK zB1 h1
 obtain ⟨v2, rfl, w2⟩ := tyM_intK zB1 h2
 obtain ⟨k1, rfl, hk1⟩ := wf_u64 w1
 obtain ⟨k2, rfl, hk2⟩ := wf_u64 w2
 obtain ⟨xs, m3, hm3, rfl, hx3⟩ := tyM_slice zA0 h3
 obtain ⟨ss, rfl, _⟩ := all_enc (enc := encX) (q := fun _ => True) (xs := xs) (fun x hx => by
  obtain ⟨_, g2, g3⟩ := hx3 x hx
  obtain ⟨a, e1, _⟩ := el_str zJ0 m3 x g2 g3
  exact ⟨a, e1, trivial⟩)
 obtain ⟨ys, m4, hm4, rfl, hx4⟩ := tyM_slice zS h4
 obtain ⟨cs, rfl, hcs⟩ := all_enc (enc := encC) (q := fun c : List Tk => ∀ t ∈ c, okTk t) (xs := ys) (fun x hx => by
  obtain ⟨_, g2, g3⟩ := hx4 x hx
  obtain ⟨zs, m5, hm5, e5, hx5⟩ := tyM_slice zM g2
  simp only [ElF, zM] at g3
  rw [e5] at g3
  injection g3 with g3 _
  obtain ⟨c, rfl, hc⟩ := all_enc (enc := encT) (q := okTk) (xs := zs) (fun z hz => by
   obtain ⟨f1, f2, f3⟩ := hx5 z hz
   exact el_tick m5 z f1 f2 f3)
  refine ⟨c, ?_, hc⟩
  rw [g3, cells_tick]
  rfl)
 obtain ⟨us, m6, hm6, rfl, hx6⟩ := tyM_slice zT h5
 obtain ⟨vs, rfl, hvs⟩ := all_enc (enc := encV) (q := okV) (xs := us) (fun x hx => by
  obtain ⟨_, g2, g3⟩ := hx6 x hx
  obtain ⟨v, e1, hv⟩ := ih m6 (by omega) _ g2
  simp only [ElF, zU1] at g3
  exact ⟨v, g3.trans e1, hv⟩)
 refine ⟨.mk k1 k2 ss cs vs, ?_, ?_⟩
 ·rw [cellsV_str, cellsV_clk, cellsV_val, encV, encVs_eq]
  rfl
 ·simp only [okV]
  exact ⟨by omega, by omega, hcs, okVs_iff.2 hvs⟩
theorem tys_ok : okTypes Tryz.prog [24, 22, 3] = true := by kernel_rfl
theorem cells_sch : Tryz.prog.cellsOf 24 = 2 := by kernel_rfl
theorem tyM_int {n : Nat} {l : List MV} (h : TyM Tryz.prog n 3 l) : ∃ v, l = [.int .i64 v] ∧ (Lit.int .i64 v).wf = true := by
 cases n with
 | zero => exact h.elim
 | succ n => unfold TyM at h; rw [zZ0] at h; exact h
theorem _root_.zJ2 : type_of% @Tryz.underlying24 := @Tryz.underlying24
theorem tyM_sch (n : Nat) : ∀ (l : List MV), TyM Tryz.prog n 24 l → ∃ s, MV.agg l = encS s := by
 induction n using Nat.strongRecOn with
 | _ n ih =>
 intro l h
 match n, ih, h with
 | n + 1, ih, h =>
  unfold TyM at h
  rw [zJ2] at h
  obtain ⟨a, _, rfl, h1, b, _, rfl, h2, rfl⟩ := h
  obtain ⟨k, rfl, _⟩ := tyM_int h1
  match n, ih, h2 with
  | n + 1, ih, h2 =>
   unfold TyM at h2
   rw [zD0] at h2
   obtain ⟨xs, rfl, hx⟩ := h2
   have hss : ∀ ys : List MV, (∀ x ∈ ys, x.cells.length = Tryz.prog.cellsOf 24 ∧ TyM Tryz.prog n 24 x.cells ∧ ElF Tryz.prog 24 x) → ∃ ss, ys = encSs ss := by
    intro ys
    induction ys with
    | nil => exact fun _ => ⟨[], by simp [encSs]⟩
    | cons y ys ihy =>
     intro hy
     obtain ⟨ss, rfl⟩ := ihy (fun x hx => hy x (zM0 _ hx))
     obtain ⟨h1, h2, h3⟩ := hy y (zP0 ..)
     obtain ⟨s, hs⟩ := ih n (by omega) _ h2
     refine ⟨s :: ss, ?_⟩
     simp only [ElF, zJ2] at h3
     rw [h3, hs]; simp [encSs]
   obtain ⟨ss, rfl⟩ := hss xs hx
   exact ⟨.mk k ss, by rw [cells_sch]; simp [encS]⟩
mutual
theorem bulk_le {H : Type} : ∀ d : DataW H, dBulk d ≤ Rows.uptoBulk d
 | .lit (.string b) => by simp [dBulk, Rows.uptoBulk]
 | .lit (.bool b) => by simp [dBulk, Rows.uptoBulk]
 | .lit (.int k n) => by simp [dBulk, Rows.uptoBulk]
 | .lit (.float k n) => by simp [dBulk, Rows.uptoBulk]
 | .lit _ => by
  rename_i l
  cases l <;> simp [dBulk, Rows.uptoBulk]
 | .nil => by simp [dBulk, Rows.uptoBulk]
 | .ptr d => by simp [dBulk, Rows.uptoBulk]
 | .slice es sp => by
  have := bulkAll_le es
  simp only [dBulk, Rows.uptoBulk]
  omega
 | .agg ps => by
  have := bulkAll_le ps
  simp only [dBulk, Rows.uptoBulk]
  omega
 | .iface t d => by simp [dBulk, Rows.uptoBulk]
 | .map es => by simp [dBulk, Rows.uptoBulk]
 | .held h => by simp [dBulk, Rows.uptoBulk]
theorem bulkAll_le {H : Type} : ∀ l : List (DataW H), dBulkAll l ≤ Rows.uptoBulkAll l
 | [] => by simp [dBulkAll, Rows.uptoBulkAll]
 | d :: r => by
  have h1 := bulk_le d
  have h2 := bulkAll_le r
  simp only [dBulkAll, Rows.uptoBulkAll]
  omega
end
theorem bulk_bound {H : Type} {l : List (DataW H)} (hk : Rows.uptoSmall H l = true) : dBulkAll l ≤ 1048576 := Nat.le_trans (bulkAll_le l) (of_decide_eq_true hk)
theorem arg_valB {ts : List TypeId} (hok : okTypes Tryz.prog ts = true) (ht : 30 ∈ ts) {H : Type} {enc : TypeId × Value → H} {W : World} {base b0 : Nat} {spare : Nat → Bool} {held : Bool} {r : Reach} {v : Value} {d : DataW H} {p : List MemPlace} (hv : Value.okWide Tryz.prog W r b0 30 v) (h : DataW.Trod enc Tryz.prog W base spare held 30 v d p) :
  ∃ x : Val, Rd (g0 W) W (encV x) v ∧ okV x ∧ szM (encV x) ≤ dBulk d := by
 obtain ⟨l, m, h1, h2, h3⟩ := arg_structB hok ht zU1 hv h
 obtain ⟨x, hx, ho⟩ := tyM_val _ _ h2
 exact ⟨x, hx ▸ h1, ho, hx ▸ h3⟩
theorem arg_schB {H : Type} {enc : TypeId × Value → H} {W : World} {base b0 : Nat} {spare : Nat → Bool} {held : Bool} {r : Reach} {v : Value} {d : DataW H} {p : List MemPlace} (hv : Value.okWide Tryz.prog W r b0 24 v) (h : DataW.Trod enc Tryz.prog W base spare held 24 v d p) :
  ∃ x : Sch, Rd (g0 W) W (encS x) v ∧ szM (encS x) ≤ dBulk d := by
 obtain ⟨l, m, h1, h2, h3⟩ := arg_structB tys_ok (by simp) zJ2 hv h
 obtain ⟨x, hx⟩ := tyM_sch _ _ h2
 exact ⟨x, hx ▸ h1, hx ▸ h3⟩
theorem sz_mk (n m : Int) (s : List Bs) (c : List (List Tk)) (w : List Val) : szM (encV (.mk n m s c w)) = szMs (s.map encX) + szMs (c.map encC) + szMs (encVs w) + 6 := by
 simp [encV, szM, szMs]
 omega
end Go.Proofs.YtplclefbiimnbaaGreat
namespace Go.Proofs.YtplclefbiimnbaaGreat
open Go Go.MV Go.RowKit
theorem numB_one {m : Nat} (h : m < 128) : (numB m).length = 1 := by rw [zC5 h]; rfl
theorem numB_ten {m : Nat} (h : m < 18446744073709551616) : (numB m).length ≤ 10 := zQ2 9 m (by omega)
theorem numB_pos1 (m : Nat) : 1 ≤ (numB m).length := by
 rw [numB]
 split <;> simp
theorem sz_text (x : Bs) : szM (encX x) = x.length + 1 := by simp [encX, szM, bs]
theorem text_len {x : Bs} (h : x.length ≤ 16) : (textB x).length = szM (encX x) := by
 rw [sz_text, textB, zF, numB_one (by omega)]
 omega
theorem texts_len : ∀ {s : List Bs}, (∀ x ∈ s, x.length ≤ 16) → (s.flatMap textB).length = szMs (s.map encX)
 | [], _ => rfl
 | x :: s, h => by
  rw [List.flatMap_cons, zF, List.map_cons, szMs, text_len (h x (.head _)), texts_len fun y hy => h y (.tail _ hy)]
theorem clk_len {c : List Tk} (h : ∀ t ∈ c, (0 ≤ t.1 ∧ t.1 ≤ 1000000) ∧ okTk t) : (c.flatMap tkB).length ≤ 13 * c.length := by
 induction c with
 | nil => simp
 | cons t c ih =>
  have h1 := ih fun x hx => h x (.tail _ hx)
  obtain ⟨⟨a, b⟩, e, f⟩ := h t (.head _)
  have h2 := numB_len (show t.1.toNat < 2097152 by omega)
  have h3 := numB_ten (show t.2.toNat < 18446744073709551616 by omega)
  rw [List.flatMap_cons, zF, zC0, tkB, zF]
  omega
theorem sz_ticks : ∀ (c : List Tk), szMs (c.map encT) = 3 * c.length
 | [] => rfl
 | t :: c => by rw [List.map_cons, szMs, sz_ticks c, show szM (encT t) = 3 from rfl, zC0]; omega
theorem sz_clk (c : List Tk) : szM (encC c) = 3 * c.length + 1 := by rw [encC, szM, sz_ticks]
theorem clkB_len {c : List Tk} (h : isClockF c = true) (ho : ∀ t ∈ c, okTk t) : 1 ≤ (rowB tkB c).length ∧ (rowB tkB c).length ≤ 5 * szM (encC c) := by
 obtain ⟨h1, h2⟩ := clk_who h
 have h3 := clk_len (c := c) fun t ht => ⟨h2 t ht, ho t ht⟩
 rw [rowB, zF, numB_one (by omega), sz_clk]
 omega
theorem ents_len {E : Val → Bs} : ∀ {s : List Bs} {w : List Val}, (∀ x ∈ s, x.length ≤ 16) → (∀ x ∈ w, (E x).length ≤ 5 * szM (encV x)) → ((s.zip w).flatMap (entB E)).length ≤ szMs (s.map encX) + 5 * szMs (encVs w)
 | [], w, _, _ => by simp
 | x :: s, [], _, _ => by simp
 | x :: s, y :: w, h1, h2 => by
  have h3 := ents_len (fun z hz => h1 z (.tail _ hz)) (fun z hz => h2 z (.tail _ hz))
  have h4 := h2 y (.head _)
  rw [List.zip_cons_cons, List.flatMap_cons, zF, entB, zF]
  dsimp only
  rw [text_len (h1 x (.head _)), List.map_cons, szMs, encVs, szMs]
  omega
theorem sibs_len {E : Val → Bs} : ∀ {c : List (List Tk)} {w : List Val}, (∀ x ∈ c, (rowB tkB x).length ≤ 5 * szM (encC x)) → (∀ x ∈ w, (E x).length ≤ 5 * szM (encV x)) → ((c.zip w).flatMap (sibB E)).length ≤ 5 * szMs (c.map encC) + 5 * szMs (encVs w)
 | [], w, _, _ => by simp
 | x :: s, [], _, _ => by simp
 | x :: s, y :: w, h1, h2 => by
  have h3 := sibs_len (fun z hz => h1 z (.tail _ hz)) (fun z hz => h2 z (.tail _ hz))
  have h4 := h2 y (.head _)
  have h5 := h1 x (.head _)
  rw [List.zip_cons_cons, List.flatMap_cons, zF, sibB, zF]
  dsimp only
  rw [List.map_cons, szMs, encVs, szMs]
  omega
theorem valB_len : ∀ (d : Nat) (s : Sch), isF d s = true → ∀ v, isOk s v → 1 ≤ (valB s v).length ∧ (valB s v).length ≤ 5 * szM (encV v)
 | 0, s, h, v, _ => by simp [isF] at h
 | d + 1, .mk k ins, h, .mk n m s c w, hv => by
  simp only [isF, Bool.and_eq_true, beq_iff_eq, List.all_eq_true] at h
  have ho := hv.2
  have hov := ok_vals hv.2
  rw [okV] at ho
  rw [sz_mk]
  rcases kinds h.1 with ⟨hk, rfl⟩ | ⟨rfl, rfl⟩ | ⟨rfl, rfl⟩ | ⟨rfl, rfl⟩ | ⟨s1, rfl, rfl⟩ | ⟨s1, rfl, rfl⟩ | ⟨s1, s2, rfl, rfl⟩
  ·have h1 := numB_ten (show n.toNat < 18446744073709551616 by omega)
   have h2 := numB_pos1 n.toNat
   rw [valB, kindB, if_pos (by omega), flatB, if_neg (by omega)]
   omega
  ·obtain ⟨rfl, rfl, rfl, rfl, h1, h2⟩ := bare_set hv.1
   rw [valB, kindB, if_pos (by omega), flatB, if_pos rfl, rowB, zF, numB_one (by omega), texts_len h2]
   omega
  ·have h1 := numB_ten (show n.toNat < 18446744073709551616 by omega)
   have h2 := numB_ten (show m.toNat < 18446744073709551616 by omega)
   rw [valB, kindB, if_neg (by omega), if_neg (by omega), if_neg (by omega), if_pos rfl]
   obtain ⟨rfl, rfl, ⟨rfl, rfl, rfl⟩ | ⟨t, rfl, ht⟩⟩ := bare_last hv.1
   ·rw [lastB, Val.sv, zF, numB_one (by simp)]
    simp only [List.flatMap_nil, List.length_nil]
    omega
   ·have h3 := text_len ht
    rw [lastB, zF, Val.sv, numB_one (by simp), List.flatMap_cons, List.flatMap_nil, List.append_nil, zF, zF, h3, Val.nv, Val.mv]
    simp only [List.map_cons, List.map_nil, szMs]
    omega
  ·rw [valB, kindB, if_neg (by omega), if_neg (by omega), if_neg (by omega), if_neg (by omega), if_pos rfl, oneB]
   obtain ⟨rfl, rfl, rfl, rfl, rfl | ⟨x, rfl, hx, hc⟩⟩ := bare_one hv.1
   ·rw [Val.cv, List.headD_nil, rowB, zF, numB_one (by simp)]
    simp only [List.flatMap_nil, List.length_nil]
    omega
   ·have := clkB_len hc (ho.2.2.1 x (by simp))
    simp only [Val.cv, List.headD_cons, List.map_cons, List.map_nil, szMs]
    omega
  ·obtain ⟨rfl, rfl, rfl, hl, hs, hw⟩ := bare_map hv.1
   have hE := ents_len (E := valB s1) hs.2 (w := w) fun x hx => (valB_len d s1 (h.2 s1 (by simp)) x ⟨hw x hx, hov x hx⟩).2
   rw [valB, kindB, if_neg (by omega), if_pos rfl, valBs, List.headD_cons, mapB, entsB, zF, Val.sv, Val.vv, zip_len hl, numB_one (by omega)]
   omega
  ·obtain ⟨rfl, rfl, rfl, hl, hs, hw⟩ := bare_sibs hv.1
   have hE := sibs_len (E := valB s1) (c := c) (fun x hx => (clkB_len (hs.2 x hx) (ho.2.2.1 x hx)).2) (w := w) fun x hx => (valB_len d s1 (h.2 s1 (by simp)) x ⟨hw x hx, hov x hx⟩).2
   rw [valB, kindB, if_neg (by omega), if_neg (by omega), if_neg (by omega), if_neg (by omega), if_neg (by omega), valBs, List.headD_cons, sibsB, rowB, zF, Val.cv, Val.vv, zip_len hl, numB_one (by omega)]
   omega
  ·obtain ⟨rfl, rfl, rfl, rfl, x, y, rfl, q1, q2⟩ := bare_pair hv.1
   have hE := valB_len d s1 (h.2 s1 (by simp)) x ⟨q1, hov x (by simp)⟩
   have hF := valB_len d s2 (h.2 s2 (by simp)) y ⟨q2, hov y (by simp)⟩
   rw [valB, kindB, if_neg (by omega), if_neg (by omega), if_pos rfl, valBs, valBs, List.headD_cons, List.tail_cons, List.headD_cons, pairB, zF]
   simp only [Val.vv, List.headD_cons, List.tail_cons, encVs, szMs]
   omega
theorem valB_inj {d : Nat} {s : Sch} (h : isF d s = true) {a b : Val} (ha : isOk s a) (hb : isOk s b) : valB s a = valB s b ↔ a = b := by
 refine ⟨fun e => ?_, fun e => by rw [e]⟩
 have h1 := (cod_value d s h).rt a [] ha
 have h2 := (cod_value d s h).rt b [] hb
 rw [e, h2] at h1
 injection h1 with h1
 exact h1.symm
theorem flatG_take {α : Type} {G : α → Bs} {s : List α} {i : Nat} {x : α} (h : s[i]? = some x) : (s.take (i + 1)).flatMap G = (s.take i).flatMap G ++ G x := by
 rw [List.take_add_one, h, List.flatMap_append]
 simp
theorem flatG_le {α : Type} {G : α → Bs} {s : List α} {i : Nat} {x : α} (h : s[i]? = some x) : ((s.take i).flatMap G).length + (G x).length ≤ (s.flatMap G).length := by
 have h1 : (s.take (i + 1)).flatMap G ++ (s.drop (i + 1)).flatMap G = s.flatMap G := by rw [← List.flatMap_append, List.take_append_drop]
 have h2 := congrArg List.length h1
 rw [flatG_take h] at h2
 simp only [zF] at h2
 omega
theorem WritesN.nx {k : FuncId} {id t : Nat} {xs : List MV} {s l m : Bs} {S : MS} (hw : WritesN k id t xs s) (h : PrAt S id t l) (hl : m.length + s.length ≤ 9000000) (L : MS) : MCalls Tryz.prog k xs (pr S id t m ++ L) fun v σ' => v = .tup [] ∧ σ' = pr S id t (m ++ s) ++ L :=
 (hw.sl (h.pr m) hl L).mono fun v σ' hv => ⟨hv.1, hv.2.trans (by rw [pr_pr h])⟩
theorem Writes.nx {k : FuncId} {id t : Nat} {xs : List MV} {s l m : Bs} {S : MS} (hw : Writes k id t xs s) (h : PrAt S id t l) (hl : m.length + s.length ≤ 8000000) (L : MS) : MCalls Tryz.prog k xs (pr S id t m ++ L) fun v σ' => v = .tup [] ∧ σ' = pr S id t (m ++ s) ++ L :=
 (hw.sl (h.pr m) hl L).mono fun v σ' hv => ⟨hv.1, hv.2.trans (by rw [pr_pr h])⟩
theorem write_nx {S : MS} {id t : Nat} {l m : Bs} (h : PrAt S id t l) (s : Bs) (hlen : m.length + s.length ≤ 10000000) (L : MS) : MCalls Tryz.prog 38 [.ref id 0, .str (bs s)] (pr S id t m ++ L) fun v σ' => v = .tup [.int .i64 (s.length : Int), .iface0] ∧ σ' = pr S id t (m ++ s) ++ L :=
 (write_at (h.pr m) s hlen L).mono fun v σ' hv => ⟨hv.1, hv.2.trans (by rw [pr_pr h])⟩
theorem clock_sl (c : List Tk) (hc : c.length ≤ 1000) (hc0 : ∀ t ∈ c, okW t) (id t : Nat) {l : Bs} {S : MS} (h : PrAt S id t l) (hl : l.length ≤ 8000000) (L : MS) : MCalls Tryz.prog 39 [.ref id 0, encC c] (S ++ L) fun v σ' => v = .tup [] ∧ σ' = pr S id t (l ++ rowB tkB c) ++ L :=
 (clock_writes c hc hc0 id t l _ (h.sl L) hl).mono fun v σ' hv => ⟨hv.1, hv.2.trans (by rw [pr_sl h])⟩
theorem clock_nx (c : List Tk) (hc : c.length ≤ 1000) (hc0 : ∀ t ∈ c, okW t) (id t : Nat) {l m : Bs} {S : MS} (h : PrAt S id t l) (hl : m.length ≤ 8000000) (L : MS) : MCalls Tryz.prog 39 [.ref id 0, encC c] (pr S id t m ++ L) fun v σ' => v = .tup [] ∧ σ' = pr S id t (m ++ rowB tkB c) ++ L :=
 (clock_sl c hc hc0 id t (h.pr m) hl L).mono fun v σ' hv => ⟨hv.1, hv.2.trans (by rw [pr_pr h])⟩
theorem pair_writes (k1 k2 : Int) (i1 i2 : List Sch) (B1 B2 : Bs) (n m : Int) (s : List Bs) (c : List (List Tk)) (x y : Val) (id t : Nat) (hE : Writes 19 id t [.ref id 0, encS (.mk k1 i1), encV x] B1) (hF : Writes 19 id t [.ref id 0, encS (.mk k2 i2), encV y] B2) : Writes 19 id t [.ref id 0, encS (.mk 5 [.mk k1 i1, .mk k2 i2]), encV (.mk n m s c [x, y])] (B1 ++ B2) := by
 intro l S h hl
 obtain ⟨n8, m8, s8, c8, w8⟩ := x
 obtain ⟨n9, m9, s9, c9, w9⟩ := y
 refine zN zS3 V zV3 (zB V) ?_
 refine zS0 fun _ hcl => ?_
 rw [List.append_nil] at hcl
 rw [zF] at hl
 refine zA <| qR V <| qB V V V V V <| qB V V V V V <| qN <| zA <| qR V <| qF V V V zM1 <| qO V <| zF0 (by simp [zV1]) V V V ta3 V ?_
 refine qN <| zW <| zA <| zA <| qR V <| qC V V V V V <| qA V V V <| qN <| zJ V (V) <| qR V <| qC V V V V V <| qA V V V <| qN <| zJ V (V) <| zA <| zA <| qR V <| qC V V V V V <| qA V V V <| qN <| zJ V (V) <| qR V <| qC V V V V V ?_
 refine qA V V V <| qN <| zJ V (V) <| zA <| qR V <| qC V V V V V <| qA V V V <| qN <| zX V (V) <| zA ?_
 refine zV0 [9] [_, pr S id t (l ++ B1) ++ [.cells (encS (.mk 5 [.mk k1 i1, .mk k2 i2])).cells, .cells (encV (.mk n m s c [.mk n8 m8 s8 c8 w8, .mk n9 m9 s9 c9 w9])).cells]] mo (by decide) V V V V ?_
 refine dO V V V (zY V V Vv) <| zV V V (.cons (zL V V zC2 Vv) (.cons (zL V V zC2 Vv) (.nil))) <| zV V V (.cons (zF0 (by simp [zV1]) V V V ta22 V Vv) (.cons (zF0 (by simp [zV1]) V V V ta22 V Vv) (.nil))) ?_
 refine zV V V (.cons (zO V zD0 sz24 (by decide) V V V (show _ = some (encS (.mk k1 i1)) from V) Vv) (.cons (zO V zD0 sz24 (by decide) V V V (show _ = some (encS (.mk k1 i1)) from V) Vv) (.nil))) ?_
 refine dO V V V (zP V V ta24 V Vv) <| zV V V (.cons (zL V V zO1 Vv) (.cons (zL V V zO1 Vv) (.nil))) <| zV V V (.cons (zF0 (by simp [zV1]) V V V ta28 V Vv) (.cons (zF0 (by simp [zV1]) V V V ta28 V Vv) (.nil))) ?_
 refine zV V V (.cons (zO V zT sz30 (by decide) V V V (show _ = some (encV (.mk n8 m8 s8 c8 w8)) from V) Vv) (.cons (zO V zT sz30 (by decide) V V V (show _ = some (encV (.mk n8 m8 s8 c8 w8)) from V) Vv) (.nil))) ?_
 refine dO V V V (zP V V ta30 V Vv) <| zG1 V V V V (zX0 V V V co19 ((hE.sl h (by omega) _))) ?_
 refine zO0 ?_
 refine zV0 [9] [_, pr S id t (l ++ B1 ++ B2) ++ [.cells (encS (.mk 5 [.mk k1 i1, .mk k2 i2])).cells, .cells (encV (.mk n m s c [.mk n8 m8 s8 c8 w8, .mk n9 m9 s9 c9 w9])).cells]] mo (by decide) V V V V ?_
 refine dO V V V (zY V V Vv) <| zV V V (.cons (zL V V zC2 Vv) (.cons (zL V V zC2 Vv) (.nil))) <| zV V V (.cons (zF0 (by simp [zV1]) V V V ta22 V Vv) (.cons (zF0 (by simp [zV1]) V V V ta22 V Vv) (.nil))) ?_
 refine zV V V (.cons (zO V zD0 sz24 (by decide) V V V (show _ = some (encS (.mk k2 i2)) from V) Vv) (.cons (zO V zD0 sz24 (by decide) V V V (show _ = some (encS (.mk k2 i2)) from V) Vv) (.nil))) ?_
 refine dO V V V (zP V V ta24 V Vv) <| zV V V (.cons (zL V V zO1 Vv) (.cons (zL V V zO1 Vv) (.nil))) <| zV V V (.cons (zF0 (by simp [zV1]) V V V ta28 V Vv) (.cons (zF0 (by simp [zV1]) V V V ta28 V Vv) (.nil))) ?_
 refine zV V V (.cons (zO V zT sz30 (by decide) V V V (show _ = some (encV (.mk n9 m9 s9 c9 w9)) from V) Vv) (.cons (zO V zT sz30 (by decide) V V V (show _ = some (encV (.mk n9 m9 s9 c9 w9)) from V) Vv) (.nil))) ?_
 refine dO V V V (zP V V ta30 V Vv) <| zG1 V V V V (zX0 V V V co19 (hF.nx h (by rw [zF]; omega) _)) ?_
 refine zO0 ?_
 exact zT2 (by simp) zD3 (by rw [zV1]; exact Nat.le_refl _) (cls_pr hcl h.idl h.tl) ⟨rfl, by rw [zR]⟩
theorem last_writes (ins : List Sch) (n m : Nat) (hn : n < 18446744073709551616) (hm : m < 18446744073709551616) (s : List Bs) (c : List (List Tk)) (w : List Val) (hsl : s.length ≤ 1000) (hs0 : ∀ x ∈ s, x.length ≤ 1000) (id t : Nat) : Writes 19 id t [.ref id 0, encS (.mk 6 ins), encV (.mk (n : Int) (m : Int) s c w)] (numB s.length ++ s.flatMap (fun x => numB n ++ (numB m ++ textB x))) := by
 intro l S h hl
 refine zN zS3 V zV3 (zB V) ?_
 refine zS0 fun _ hcl => ?_
 rw [List.append_nil] at hcl
 have hlen' : s.length ≤ maxLen := by simp only [maxLen]; omega
 have hnb := zQ2 9 s.length (by omega)
 have hn1 := numB_ten hn
 have hm1 := numB_ten hm
 rw [zF] at hl
 refine zA <| qR V <| qB V V V V V <| qB V V V V V <| qN <| zA <| qR V <| qF V V V zM1 <| qO V <| zF0 (by simp [zV1]) V V V ta3 V ?_
 refine qN <| zW <| zA <| zA <| qR V <| qC V V V V V <| qA V V V <| qN <| zJ V (V) <| qR V <| qC V V V V V <| qA V V V <| qN <| zJ V (V) <| zA <| zA <| qR V <| qC V V V V V <| qA V V V <| qN <| zJ V (V) <| qR V <| qC V V V V V ?_
 refine qA V V V <| qN <| zJ V (V) <| zA <| qR V <| qC V V V V V <| qA V V V <| qN <| zJ V (V) <| zA <| qR V <| qC V V V V V <| qA V V V <| qN <| zX V (V) <| zA <| qR V <| qM V V V <| qF V V V zT1 <| qO V <| zF0 (by simp [zV1]) V V V ta26 V ?_
 refine qE V V zA0 V <| qO V <| zR1 V zZ0 zB1 V (zJ3 (by rw [zH]; omega)) ?_
 rw [zH]
 refine qX V V V V co37 ((zL3 id t s.length (by omega)).sl h (by omega) _) ?_
 refine qN <| zA <| qR V <| qF V V V zT1 <| qO V <| zF0 (by simp [zV1]) V V V ta26 V ?_
 refine qE V V zA0 V <| qM V V V <| qN <| zW ?_
 show mwp _ _ _ _ _ _ _ (([] : MS) ++ (pr S id t (l ++ numB s.length) ++ [.cells (encS (.mk 6 ins)).cells, .cells (encV (.mk (n : Int) (m : Int) s c w)).cells]))
 refine zD1 (α := Nat) [(0, _), (5, _), (120, _), (121, _)] (fun i => [(122, .int .i64 (i : Int))]) (fun i => (pr S id t (l ++ numB s.length ++ (s.take i).flatMap (fun x => numB n ++ (numB m ++ textB x))) ++ [.cells (encS (.mk 6 ins)).cells, .cells (encV (.mk (n : Int) (m : Int) s c w)).cells])) (fun i => i ≤ s.length) (fun i => s.length - i) (0) (.keep V (.keep V (.keep V (.keep V (.nil))))) (.keep V (.nil)) (by omega) (by simp) ?_
 rintro i hi
 show mwp _ _ _ _ _ _ _ (pr S id t (l ++ numB s.length ++ (s.take i).flatMap (fun x => numB n ++ (numB m ++ textB x))) ++ [.cells (encS (.mk 6 ins)).cells, .cells (encV (.mk (n : Int) (m : Int) s c w)).cells])
 have hw := h.pr (l ++ numB s.length ++ (s.take i).flatMap (fun x => numB n ++ (numB m ++ textB x)))
 refine zA <| qR V <| qC V V V V V <| qN <| zA ?_
 refine zE V (fun h123 => ?_) (fun h123 => ?_)
 ·
  have hlt : i < s.length := by simpa using h123
  obtain ⟨x, hs⟩ : ∃ q_, s[i]? = some q_ := ⟨_, zD hlt⟩
  have hx := hs0 x (zU hs)
  have hle := flatG_le (G := (fun x => numB n ++ (numB m ++ textB x))) hs
  simp only [zF] at hle
  have hxl := (numB_len (show x.length < 2097152 by omega)).2
  have hxt : (textB x).length = (numB x.length).length + x.length := by simp [textB]
  refine zQ <| zA <| zW <| zA <| qR V <| qO V <| zO V zA0 sz9 (by decide) V V V (zE1 hs) ?_
  refine qO V <| zP V V ta9 V <| qA V V V <| qN <| zA <| qR V <| qM V V V <| qF V V V zB4 <| qO V <| zF0 (by simp [zV1]) V V V ta25 V ?_
  refine qX V V V V co37 ((zL3 id t n hn).nx h (by simp only [zF]; omega) _) ?_
  refine qN <| zA <| qR V <| qM V V V <| qF V V V zX4 <| qO V <| zF0 (by simp [zV1]) V V V ta25 V ?_
  refine qX V V V V co37 ((zL3 id t m hm).nx h (by simp only [zF]; omega) _) ?_
  refine qN ?_
  refine zV0 [5] [_, pr S id t (l ++ numB s.length ++ (s.take i).flatMap (fun x => numB n ++ (numB m ++ textB x)) ++ numB n ++ numB m ++ textB x) ++ [.cells (encS (.mk 6 ins)).cells, .cells (encV (.mk (n : Int) (m : Int) s c w)).cells]] mo (by decide) V V V V ?_
  refine zV V V (.cons (zY V V Vv) (.cons (zY V V Vv) (.nil))) <| zV V V (.cons (zE0 V V V Vv) (.cons (zE0 V V V Vv) (.nil))) <| dO V V V (zL V V fo57_0 Vv) <| zV V V (.cons (zY V V Vv) (.cons (zY V V Vv) (.nil))) <| zV V V (.cons (zX0 V V V co14 (codeText_spec x (by omega) _)) .nil) ?_
  refine zG1 V V V V (zX0 V V V co38 (write_nx h (textB x) (by simp only [zF]; omega) _)) ?_
  refine zO0 <| qR V <| qO V <| zU0 V V V V <| qM V V V <| qN ?_
  refine ⟨i + 1, by omega, by omega, by rw [flatG_take hs]; simp only [zR, List.nil_append], (.keep V (.keep V (.keep V (.keep V (.nil))))), (.eq V (zH1 hlt hlen') (.nil))⟩
 ·
  have hge : i = s.length := by simp at h123; omega
  refine zA1 ?_
  exact zT2 (by simp) zD3 (by rw [zV1]; exact Nat.le_refl _) (cls_pr hcl h.idl h.tl) ⟨rfl, by rw [hge, List.take_length, zR]⟩
theorem clk_writes0 (ins : List Sch) (n m : Int) (s : List Bs) (w : List Val) (id t : Nat) : Writes 19 id t [.ref id 0, encS (.mk 7 ins), encV (.mk n m s [] w)] (rowB tkB []) := by
 intro l S h hl
 refine zN zS3 V zV3 (zB V) ?_
 refine zS0 fun _ hcl => ?_
 rw [List.append_nil] at hcl
 rw [rowB, zF] at hl
 refine zA <| qR V <| qB V V V V V <| qB V V V V V <| qN <| zA <| qR V <| qF V V V zM1 <| qO V <| zF0 (by simp [zV1]) V V V ta3 V ?_
 refine qN <| zW <| zA <| zA <| qR V <| qC V V V V V <| qA V V V <| qN <| zJ V (V) <| qR V <| qC V V V V V <| qA V V V <| qN <| zJ V (V) <| zA <| zA <| qR V <| qC V V V V V <| qA V V V <| qN <| zJ V (V) <| qR V <| qC V V V V V ?_
 refine qA V V V <| qN <| zJ V (V) <| zA <| qR V <| qC V V V V V <| qA V V V <| qN <| zJ V (V) <| zA <| qR V <| qC V V V V V <| qA V V V <| qN <| zJ V (V) <| zA <| qR V <| qC V V V V V <| qA V V V <| qN <| zX V (V) <| zA <| qR V ?_
 refine qA V V V <| qN <| zA <| zA <| qR V <| qF V V V zS1 <| qO V <| zF0 (by simp [zV1]) V V V ta27 V ?_
 refine qE V V zS V <| qC V V V V V <| qN <| zJ V (V) <| zQ <| qR V <| qM V V V <| qM V V V ?_
 refine qX V V V V co39 ((clock_sl [] (by simp) (by simp) id t h (by omega) _).sub (.cons (.refl _) (.cons (.nil 2) .nil))) ?_
 refine qN ?_
 exact zT2 (by simp) zD3 (by rw [zV1]; exact Nat.le_refl _) (cls_pr hcl h.idl h.tl) Vv
theorem clk_writes1 (ins : List Sch) (n m : Int) (s : List Bs) (x : List Tk) (hx : x.length ≤ 1000) (hx0 : ∀ t ∈ x, okW t) (w : List Val) (id t : Nat) : Writes 19 id t [.ref id 0, encS (.mk 7 ins), encV (.mk n m s [x] w)] (rowB tkB x) := by
 intro l S h hl
 refine zN zS3 V zV3 (zB V) ?_
 refine zS0 fun _ hcl => ?_
 rw [List.append_nil] at hcl
 rw [rowB, zF] at hl
 refine zA <| qR V <| qB V V V V V <| qB V V V V V <| qN <| zA <| qR V <| qF V V V zM1 <| qO V <| zF0 (by simp [zV1]) V V V ta3 V ?_
 refine qN <| zW <| zA <| zA <| qR V <| qC V V V V V <| qA V V V <| qN <| zJ V (V) <| qR V <| qC V V V V V <| qA V V V <| qN <| zJ V (V) <| zA <| zA <| qR V <| qC V V V V V <| qA V V V <| qN <| zJ V (V) <| qR V <| qC V V V V V ?_
 refine qA V V V <| qN <| zJ V (V) <| zA <| qR V <| qC V V V V V <| qA V V V <| qN <| zJ V (V) <| zA <| qR V <| qC V V V V V <| qA V V V <| qN <| zJ V (V) <| zA <| qR V <| qC V V V V V <| qA V V V <| qN <| zX V (V) <| zA <| qR V ?_
 refine qA V V V <| qN <| zA <| zA <| qR V <| qF V V V zS1 <| qO V <| zF0 (by simp [zV1]) V V V ta27 V ?_
 refine qE V V zS V <| qC V V V V V <| qN <| zX V (V) <| qR V <| qF V V V zS1 <| qO V <| zF0 (by simp [zV1]) V V V ta27 V ?_
 refine qO V <| zO V zS sz68 (by decide) V V V (show _ = some (encC x) from V) ?_
 refine qO V <| zP V V ta68 V <| qA V V V <| qN <| qR V <| qM V V V <| qM V V V ?_
 refine qX V V V V co39 (clock_sl x hx hx0 id t h (by omega) _) ?_
 refine qN ?_
 exact zT2 (by simp) zD3 (by rw [zV1]; exact Nat.le_refl _) (cls_pr hcl h.idl h.tl) Vv
theorem sibs_writes (k1 : Int) (i1 : List Sch) (E : Val → Bs) (n m : Int) (s : List Bs) (ps : List (List Tk × Val)) (id t : Nat) (hpl : ps.length ≤ 1000) (hps : ∀ p ∈ ps, p.1.length ≤ 1000 ∧ ∀ t ∈ p.1, okW t) (hE : ∀ p ∈ ps, Writes 19 id t [.ref id 0, encS (.mk k1 i1), encV p.2] (E p.2)) : Writes 19 id t [.ref id 0, encS (.mk 8 [.mk k1 i1]), encV (.mk n m s (ps.map Prod.fst) (ps.map Prod.snd))] (rowB (sibB E) ps) := by
 intro l S h hl
 refine zN zS3 V zV3 (zB V) ?_
 refine zS0 fun _ hcl => ?_
 rw [List.append_nil] at hcl
 have hlen' : ps.length ≤ maxLen := by simp only [maxLen]; omega
 have hnb := zQ2 9 ps.length (by omega)
 rw [rowB, zF] at hl
 refine zA <| qR V <| qB V V V V V <| qB V V V V V <| qN <| zA <| qR V <| qF V V V zM1 <| qO V <| zF0 (by simp [zV1]) V V V ta3 V ?_
 refine qN <| zW <| zA <| zA <| qR V <| qC V V V V V <| qA V V V <| qN <| zJ V (V) <| qR V <| qC V V V V V <| qA V V V <| qN <| zJ V (V) <| zA <| zA <| qR V <| qC V V V V V <| qA V V V <| qN <| zJ V (V) <| qR V <| qC V V V V V ?_
 refine qA V V V <| qN <| zJ V (V) <| zA <| qR V <| qC V V V V V <| qA V V V <| qN <| zJ V (V) <| zA <| qR V <| qC V V V V V <| qA V V V <| qN <| zJ V (V) <| zA <| qR V <| qC V V V V V <| qA V V V <| qN <| zJ V (V) <| zA <| qR V ?_
 refine qM V V V <| qF V V V zS1 <| qO V <| zF0 (by simp [zV1]) V V V ta27 V ?_
 refine qE V V zS V <| qO V <| zR1 V zZ0 zB1 V (zJ3 (by rw [zH, zH]; omega)) ?_
 rw [zH, zH]
 refine qX V V V V co37 ((zL3 id t ps.length (by omega)).sl h (by omega) _) ?_
 refine qN <| zA <| qR V <| qF V V V zS1 <| qO V <| zF0 (by simp [zV1]) V V V ta27 V ?_
 refine qE V V zS V <| qM V V V <| qN <| zW ?_
 show mwp _ _ _ _ _ _ _ (([] : MS) ++ (pr S id t (l ++ numB ps.length) ++ [.cells (encS (.mk 8 [.mk k1 i1])).cells, .cells (encV (.mk n m s (ps.map Prod.fst) (ps.map Prod.snd))).cells]))
 refine zD1 (α := Nat) [(0, _), (4, _), (5, _), (22, _), (23, _)] (fun i => [(24, .int .i64 (i : Int))]) (fun i => (pr S id t (l ++ numB ps.length ++ (ps.take i).flatMap (sibB E)) ++ [.cells (encS (.mk 8 [.mk k1 i1])).cells, .cells (encV (.mk n m s (ps.map Prod.fst) (ps.map Prod.snd))).cells])) (fun i => i ≤ ps.length) (fun i => ps.length - i) (0) (.keep V (.keep V (.keep V (.keep V (.keep V (.nil)))))) (.keep V (.nil)) (by omega) (by simp) ?_
 rintro i hi
 show mwp _ _ _ _ _ _ _ (pr S id t (l ++ numB ps.length ++ (ps.take i).flatMap (sibB E)) ++ [.cells (encS (.mk 8 [.mk k1 i1])).cells, .cells (encV (.mk n m s (ps.map Prod.fst) (ps.map Prod.snd))).cells])
 have hw := h.pr (l ++ numB ps.length ++ (ps.take i).flatMap (sibB E))
 refine zA <| qR V <| qC V V V V V <| qN <| zA ?_
 refine zE V (fun h25 => ?_) (fun h25 => ?_)
 ·
  rw [zH, zH] at h25
  have hlt : i < ps.length := by simpa using h25
  obtain ⟨⟨x, ⟨n9, m9, s9, c9, w9⟩⟩, hs⟩ : ∃ q_, ps[i]? = some q_ := ⟨_, zD hlt⟩
  have hpm := zU hs
  have hx := hps _ hpm
  dsimp only at hx
  have hle := flatG_le (G := sibB E) hs
  rw [sibB, zF] at hle
  dsimp only at hle
  have hgx : ((ps.map Prod.fst).map encC)[i]? = some (encC x) := by rw [zJ1, zJ1, hs]; rfl
  have hgw : (encVs (ps.map Prod.snd))[i]? = some (encV (.mk n9 m9 s9 c9 w9)) := by rw [encVs_eq, zJ1, zJ1, hs]; rfl
  refine zQ <| zA <| zW <| zA <| qR V <| qM V V V <| qO V <| zO V zS sz68 (by decide) V V V hgx ?_
  refine qO V <| zP V V ta68 V <| qA V V V <| qA V V V <| qN <| zA <| qR V <| qM V V V <| qM V V V ?_
  refine qX V V V V co39 (clock_nx x hx.1 hx.2 id t h (by simp only [zF]; omega) _) ?_
  refine qN ?_
  refine zV0 [10] [_, pr S id t (l ++ numB ps.length ++ (ps.take i).flatMap (sibB E) ++ rowB tkB x ++ E (.mk n9 m9 s9 c9 w9)) ++ [.cells (encS (.mk 8 [.mk k1 i1])).cells, .cells (encV (.mk n m s (ps.map Prod.fst) (ps.map Prod.snd))).cells]] mo (by decide) V V V V ?_
  refine dO V V V (zY V V Vv) <| zV V V (.cons (zL V V zC2 Vv) (.cons (zL V V zC2 Vv) (.nil))) <| zV V V (.cons (zF0 (by simp [zV1]) V V V ta22 V Vv) (.cons (zF0 (by simp [zV1]) V V V ta22 V Vv) (.nil))) ?_
  refine zV V V (.cons (zO V zD0 sz24 (by decide) V V V (show _ = some (encS (.mk k1 i1)) from V) Vv) (.cons (zO V zD0 sz24 (by decide) V V V (show _ = some (encS (.mk k1 i1)) from V) Vv) (.nil))) ?_
  refine dO V V V (zP V V ta24 V Vv) <| zV V V (.cons (zL V V zO1 Vv) (.cons (zL V V zO1 Vv) (.nil))) <| zV V V (.cons (zF0 (by simp [zV1]) V V V ta28 V Vv) (.cons (zF0 (by simp [zV1]) V V V ta28 V Vv) (.nil))) ?_
  refine zV V V (.cons (zY V V Vv) (.cons (zY V V Vv) (.nil))) <| zV V V (.cons (zO V zT sz30 (by decide) V V V hgw Vv) (.cons (zO V zT sz30 (by decide) V V V hgw Vv) (.nil))) ?_
  refine dO V V V (zP V V ta30 V Vv) <| zG1 V V V V (zX0 V V V co19 ((hE _ hpm).nx h (by simp only [zF]; omega) _)) ?_
  refine zO0 <| qR V <| qO V <| zU0 V V V V <| qM V V V <| qN ?_
  refine ⟨i + 1, by omega, by omega, by rw [flatG_take hs]; simp only [sibB, zR, List.nil_append], (.keep V (.keep V (.keep V (.keep V (.keep V (.nil)))))), (.eq V (zH1 hlt hlen') (.nil))⟩
 ·
  rw [zH, zH] at h25
  have hge : i = ps.length := by simp at h25; omega
  refine zA1 ?_
  exact zT2 (by simp) zD3 (by rw [zV1]; exact Nat.le_refl _) (cls_pr hcl h.idl h.tl) ⟨rfl, by rw [hge, List.take_length, rowB, zR]⟩
theorem clk_okW {c : List Tk} (h : isClockF c = true) (ho : ∀ t ∈ c, okTk t) : c.length ≤ 1000 ∧ ∀ t ∈ c, okW t := by
 obtain ⟨h1, h2⟩ := clk_who h
 refine ⟨by omega, fun t ht => ?_⟩
 have := h2 t ht
 have := ho t ht
 unfold okTk at this
 exact ⟨by omega, by omega⟩
theorem value_writes : ∀ (d : Nat) (s : Sch), isF d s = true → ∀ v, isOk s v → ∀ id t, Writes 19 id t [.ref id 0, encS s, encV v] (valB s v)
 | 0, s, h, v, _, _, _ => by simp [isF] at h
 | d + 1, .mk k ins, h, .mk n m s c w, hv, id, t => by
  simp only [isF, Bool.and_eq_true, beq_iff_eq, List.all_eq_true] at h
  have ho := hv.2
  have hov := ok_vals hv.2
  rw [okV] at ho
  rcases kinds h.1 with ⟨hk, rfl⟩ | ⟨rfl, rfl⟩ | ⟨rfl, rfl⟩ | ⟨rfl, rfl⟩ | ⟨⟨k1, i1⟩, rfl, rfl⟩ | ⟨⟨k1, i1⟩, rfl, rfl⟩ | ⟨⟨k1, i1⟩, ⟨k2, i2⟩, rfl, rfl⟩
  ·obtain ⟨rfl, rfl, rfl, rfl⟩ := bare_nums hk hv.1
   rw [valB, kindB, if_pos (by omega)]
   exact flat_writes k [] (by omega) n 0 [] [] [] ho.1 (by simp) (by simp) id t
  ·obtain ⟨rfl, rfl, rfl, rfl, h1, h2⟩ := bare_set hv.1
   rw [valB, kindB, if_pos (by omega)]
   exact flat_writes 3 [] (by omega) 0 0 s [] [] ho.1 (by omega) (fun x hx => by have := h2 x hx; omega) id t
  ·rw [valB, kindB, if_neg (by omega), if_neg (by omega), if_neg (by omega), if_pos rfl]
   obtain ⟨q, rfl⟩ : ∃ q : Nat, n = (q : Int) := ⟨n.toNat, by omega⟩
   obtain ⟨r, rfl⟩ : ∃ q : Nat, m = (q : Int) := ⟨m.toNat, by omega⟩
   obtain ⟨hc, hw, hs⟩ := bare_last hv.1
   have hsl : s.length ≤ 1000 ∧ ∀ x ∈ s, x.length ≤ 1000 := by
    rcases hs with ⟨rfl, _, _⟩ | ⟨t, rfl, ht⟩
    ·simp
    ·simp; omega
   exact last_writes [] q r (by omega) (by omega) s c w hsl.1 hsl.2 id t
  ·rw [valB, kindB, if_neg (by omega), if_neg (by omega), if_neg (by omega), if_neg (by omega), if_pos rfl]
   obtain ⟨rfl, rfl, rfl, rfl, rfl | ⟨x, rfl, hx, hc⟩⟩ := bare_one hv.1
   ·exact clk_writes0 [] 0 0 [] [] id t
   ·obtain ⟨h1, h2⟩ := clk_okW hc (ho.2.2.1 x (by simp))
    exact clk_writes1 [] 0 0 [] x h1 h2 [] id t
  ·obtain ⟨rfl, rfl, rfl, hl, hs, hw⟩ := bare_map hv.1
   obtain ⟨z1, z2⟩ := zip_fst hl
   have hM := map_writes k1 i1 (valB (.mk k1 i1)) 0 0 [] (s.zip w) id t (by rw [zip_len hl]; omega) (fun p hp => by
    have := hs.2 p.1 (by rw [← z1]; exact List.mem_map.2 ⟨p, hp, rfl⟩)
    omega) (fun p hp => by
    have hm : p.2 ∈ w := by rw [← z2]; exact List.mem_map.2 ⟨p, hp, rfl⟩
    exact value_writes d _ (h.2 _ (by simp)) p.2 ⟨hw _ hm, hov _ hm⟩ id t)
   rw [show (s.zip w).map Prod.fst = s from z1, show (s.zip w).map Prod.snd = w from z2] at hM
   rw [valB, kindB, if_neg (by omega), if_pos rfl, valBs]
   exact hM
  ·obtain ⟨rfl, rfl, rfl, hl, hs, hw⟩ := bare_sibs hv.1
   obtain ⟨z1, z2⟩ := zip_fst hl
   have hM := sibs_writes k1 i1 (valB (.mk k1 i1)) 0 0 [] (c.zip w) id t (by rw [zip_len hl]; omega) (fun p hp => by
    have hm : p.1 ∈ c := by rw [← z1]; exact List.mem_map.2 ⟨p, hp, rfl⟩
    exact clk_okW (hs.2 _ hm) (ho.2.2.1 _ hm)) (fun p hp => by
    have hm : p.2 ∈ w := by rw [← z2]; exact List.mem_map.2 ⟨p, hp, rfl⟩
    exact value_writes d _ (h.2 _ (by simp)) p.2 ⟨hw _ hm, hov _ hm⟩ id t)
   rw [show (c.zip w).map Prod.fst = c from z1, show (c.zip w).map Prod.snd = w from z2] at hM
   rw [valB, kindB, if_neg (by omega), if_neg (by omega), if_neg (by omega), if_neg (by omega), if_neg (by omega), valBs]
   exact hM
  ·obtain ⟨rfl, rfl, rfl, rfl, x, y, rfl, q1, q2⟩ := bare_pair hv.1
   rw [valB, kindB, if_neg (by omega), if_neg (by omega), if_pos rfl, valBs, valBs]
   exact pair_writes k1 k2 i1 i2 _ _ 0 0 [] [] x y id t (value_writes d _ (h.2 _ (by simp)) x ⟨q1, hov x (by simp)⟩ id t) (value_writes d _ (h.2 _ (by simp)) y ⟨q2, hov y (by simp)⟩ id t)
theorem _root_.zB5 : type_of% @value_writes := @value_writes
theorem bytes_of (sc : Sch) (x : Val) (hs : isF 16 sc = true) (hx : isOk sc x) (hsz : szM (encV x) ≤ 1500000) (S : MS) : MCalls Tryz.prog 6 [encS sc, encV x] S fun v σ' => v = .str (bs (valB sc x)) ∧ σ' = S := by
 obtain ⟨h1, h2⟩ := valB_len 16 sc hs x hx
 exact bytes_spec sc x (valB sc x) hx.2 (by rw [hs, hx.1]; rfl) (fun e => by rw [e] at h1; simp at h1) (by omega) (fun id t => zB5 16 sc hs x hx id t) S
mutual
def schB : Sch → Bs
 | .mk k ins => numB k.toNat ++ schBs ins
def schBs : List Sch → Bs
 | [] => []
 | s :: l => schB s ++ schBs l
end
theorem schBs_eq : ∀ l : List Sch, schBs l = l.flatMap schB
 | [] => by simp [schBs]
 | s :: l => by simp [schBs, schBs_eq l]
theorem schBs_succ {l : List Sch} {i : Nat} {s : Sch} (h : l[i]? = some s) : schBs (l.take (i + 1)) = schBs (l.take i) ++ schB s := by
 rw [schBs_eq, schBs_eq, List.take_add_one, h, List.flatMap_append]
 simp
theorem k8_nat {k : Int} {m : Nat} (h : partsF k = (m : Int)) : ∃ q : Nat, k = (q : Int) ∧ 1 ≤ q ∧ q ≤ 8 ∧ m ≤ 2 := by
 rcases k8_of h with rfl | rfl | rfl | rfl | rfl | rfl | rfl | rfl
 all_goals (refine ⟨_, rfl, by decide, by decide, ?_⟩; simp [partsF] at h; try omega)
theorem schB_len : ∀ (d : Nat) (s : Sch), isF d s = true → (schB s).length < 2 ^ d
 | 0, s, h => by simp [isF] at h
 | d + 1, .mk k ins, h => by
  rw [isF] at h
  simp only [Bool.and_eq_true, List.all_eq_true, beq_iff_eq] at h
  obtain ⟨q, rfl, h1, h8, hm⟩ := k8_nat h.1
  have hq : (numB q).length = 1 := by rw [zC5 (by omega), List.length_singleton]
  have hp : 2 ^ (d + 1) = 2 ^ d + 2 ^ d := by rw [Nat.pow_succ]; omega
  rw [schB, zF, show ((q : Int)).toNat = q from rfl, hq]
  match ins, h.2, hm with
  | [], _, _ => have := Nat.two_pow_pos d; simp only [schBs, List.length_nil]; omega
  | [a], ha, _ => have := schB_len d a (ha a (by simp)); simp only [schBs, zF, List.length_nil]; omega
  | [a, b], ha, _ => have h1 := schB_len d a (ha a (by simp)); have h2 := schB_len d b (ha b (by simp)); simp only [schBs, zF, List.length_nil]; omega
theorem schBs_take_len {d : Nat} {l : List Sch} (h : ∀ x ∈ l, isF d x = true) (i : Nat) : (schBs (l.take i)).length ≤ l.length * 2 ^ d := by
 induction i with
 | zero => simp [schBs]
 | succ i _ =>
  have : ∀ m : List Sch, (∀ x ∈ m, isF d x = true) → (schBs m).length ≤ m.length * 2 ^ d := by
   intro m
   induction m with
   | nil => intro _; simp [schBs]
   | cons a m ih =>
    intro hm
    have h1 := schB_len d a (hm a (.head _))
    have h2 := ih fun x hx => hm x (.tail _ hx)
    rw [schBs, zF, zC0, Nat.succ_mul]
    omega
  refine Nat.le_trans (this _ fun x hx => h x (List.mem_of_mem_take hx)) (Nat.mul_le_mul_right _ ?_)
  rw [List.length_take]
  exact Nat.min_le_right _ _
theorem inner_spec (d : Nat) : d ≤ 16 → ∀ (s : Sch), isF d s = true → ∀ S : MS, MCalls Tryz.prog 22 [encS s] S fun v σ' => v = .str (bs (schB s)) ∧ σ' = S := by
 induction d with
 | zero => intro _ s h; simp [isF] at h
 | succ d ih =>
 rintro hd ⟨k, ins⟩ hs0 S
 rw [isF] at hs0
 simp only [Bool.and_eq_true, List.all_eq_true, beq_iff_eq] at hs0
 obtain ⟨q, rfl, h1, h8, hm2⟩ := k8_nat hs0.1
 have hlen' : ins.length ≤ maxLen := by simp only [maxLen]; omega
 have hq : (numB q).length = 1 := by rw [zC5 (by omega), List.length_singleton]
 have hpow : 2 ^ d ≤ 65536 := Nat.pow_le_pow_right (by omega) (show d ≤ 16 by omega)
 refine zN Tryz.func22 V Tryz.ntmps22 (zB V) ?_
 refine zA <| qR V <| qB V V V V V <| qA V V V <| qN <| zA <| qR V <| qF V V V zM1 <| qL V V V V ta3 V <| qO V <| zR1 V zZ0 zB1 V (zJ3 (by omega)) ?_
 refine qX V V V V co13 (codeNum_spec q (by omega) (by omega) _) ?_
 refine qA V V V <| qN <| zA <| zA <| qR V <| qF V V V zC2 <| qL V V V V ta22 V <| qE V V zD0 V <| qM V V V <| qN <| zW ?_
 refine mwp_loopKJ (α := Nat) [(11, _), (12, _)] (fun i => [(3, .str (bs (numB q ++ schBs (ins.take i)))), (13, .int .i64 (i : Int))]) (fun i => [.cells (encS (.mk (q : Int) ins)).cells]) (fun i => i ≤ ins.length) (fun i => ins.length - i) (0) (Nat.le_refl _) (.keep V (.keep V (.nil))) (.eq V (by simp [schBs]) (.keep V (.nil))) (by omega) (V) ?_
 rintro i hi
 refine zA <| qR V <| qC V V V V V <| qN <| zA ?_
 refine zE V (fun h14 => ?_) (fun h14 => ?_)
 ·
  rw [zF2] at h14
  have hlt : i < ins.length := by simpa using h14
  obtain ⟨⟨k1, i1⟩, hs⟩ : ∃ q_, ins[i]? = some q_ := ⟨_, zD hlt⟩
  have hl1 := schB_len d _ (hs0.2 _ (zU hs))
  have hl2 := schBs_take_len hs0.2 i
  have hl3 := Nat.mul_le_mul_right (2 ^ d) hm2
  refine zQ <| zA <| zW <| zA <| qR V <| qO V <| zO V zD0 sz24 (by decide) V V V (encSs_get hs) ?_
  refine qO V <| zP V V ta24 V <| qO V <| zH0 V zm24 V V <| qO V <| zT0 V V V V sz24 V V (zB V) V <| qN <| qR V <| qM V V V <| qL V V V V ta24 V ?_
  refine qX V V V V co22 (ih (by omega) (.mk k1 i1) (hs0.2 _ (zU hs)) _) ?_
  refine qO V <| zD5 V V V (by simp only [zF]; omega) ?_
  refine qA V V V <| qN <| qR V <| qO V <| zU0 V V V V <| qM V V V <| qN ?_
  refine ⟨i + 1, _, by omega, by omega, rfl, .refl _ _, (.old V V (.old V V (.nil))), (.new' V (by rw [schBs_succ hs, zR]) (.str _) (.new' V (zH1 hlt hlen') (.int _ _) (.nil)))⟩
 ·
  rw [zF2] at h14
  have hge : i = ins.length := by simp at h14; omega
  refine zA1 <| zA <| qR V <| qM V V V <| qA V V V <| qN <| zG ?_
  exact zK (.inr V) Tryz.results22 V (.of_eq (by rw [hge, List.take_length]; rfl)) (.str _) Vv
theorem schema_spec (s : Sch) (h : isF 16 s = true) (S : MS) : MCalls Tryz.prog 7 [encS s] S fun v σ' => v = .str (bs (schB s)) ∧ σ' = S := by
 obtain ⟨k, ins⟩ := s
 refine zN Tryz.func7 V Tryz.ntmps7 (zB V) ?_
 refine zA <| qR V <| qB V V V V V <| qA V V V <| qN <| zA <| zA <| qR V <| qL V V V V ta24 V ?_
 refine qX V V V V co21 (Is_spec (.mk k ins) _) ?_
 refine qO V <| zL1 V V <| qN <| zJ V (by rw [h]; rfl) ?_
 refine zQ <| zA <| qR V <| qL V V V V ta24 V ?_
 refine qX V V V V co22 (inner_spec 16 (by omega) (.mk k ins) h _) ?_
 refine qA V V V <| qN <| zG ?_
 exact zK (.inr V) Tryz.results7 V (.of_eq (V)) (.str _) Vv
theorem ret_ctt {P : Program} {fn : Func} {S L : MS} {R : MV → MS → Prop} {env : Env} {e : Exit} {a t k off t2 t3 : Nat} {l : List MV} {ta : Option Nat} {x y x2 y2 x3 y3 : MV} (he : e = .normal ∨ e = .ret) (hres : fn.results = #[.cell a t, .tmp t2, .tmp t3]) (ha : get env a = some (.ref (S.length + k) off)) (hl : L[k]? = some (.cells l)) (ht : tyAgg P t = some ta) (hm : loadMV ta l off = some x) (hs : Sub x y) (hc : Cl S.length y)
  (hx2 : get env t2 = some x2) (hs2 : Sub x2 y2) (hc2 : Cl S.length y2) (hx3 : get env t3 = some x3) (hs3 : Sub x3 y3) (hc3 : Cl S.length y3) (hR : R (.tup [y, y2, y3]) S) : BodyQ P fn S R e env (S ++ L) := by
 refine ⟨he, [x, x2, x3], .tup [y, y2, y3], S, L, ?_, .tup (.cons hs (.cons hs2 (.cons hs3 .nil))), .tup _ (fun z hz => ?_), rfl, Nat.le_refl _, .inl rfl, hR⟩
 ·rw [hres]
  exact .cell ha (by rw [getElem?_own]; exact hl) ht hm (.tmp hx2 (.tmp hx3 .nil))
 ·simp only [List.mem_cons, List.not_mem_nil, or_false] at hz
  rcases hz with rfl | rfl | rfl
  ·exact hc
  ·exact hc2
  ·exact hc3
theorem fails0 (id : Nat) (r : RdS) (S : MS) (h : S[id]? = some (rdO r)) (x : Int) : MCalls Tryz.prog 24 [.ref id 0, .int .i64 x] S fun v σ' => v = .tup [] ∧ σ' = S.set id (rdO (failR x r)) := by
 have := zK2 id r S [] h x
 rw [List.append_nil] at this
 refine this.mono fun v σ' hv => ⟨hv.1, ?_⟩
 rw [hv.2, List.append_nil]
theorem cl_ER (n : Nat) (k : Int) : Cl n (.iface 45 (.int .i64 k)) := .iface _ _ (.int _ _)
theorem schR_leaf (deep : Int) (hd : 0 < deep) (id : Nat) (b rest : Bs) (S : MS) (h : S[id]? = some (rdO (b, none))) (hlen : b.length ≤ 8000000) (hn : numM (b, none) = (3, (rest, none))) : MCalls Tryz.prog 25 [.ref id 0, .int .i64 deep] S fun v σ' => v = encS (.mk 3 []) ∧ σ' = S.set id (rdO (rest, none)) := by
 refine zN Tryz.func25 V Tryz.ntmps25 (zB V) ?_
 refine zS0 fun _ hcl => ?_
 rw [List.append_nil] at hcl
 refine zA <| qR V <| qO V <| zH0 V zm24 V V <| qN <| zA <| zA <| qR V <| qM V V V <| qC V V V V V <| qN <| zJ V (decide_eq_false (by omega)) ?_
 refine zQ <| zA <| qR V <| qM V V V ?_
 refine qX V V V V co42 ((zU2 id).sl h hlen) ?_
 rw [hn]
 dsimp only
 refine qO V <| op_min2' V V V ((by decide : (if (65536 : Int) < ((3 : Nat) : Int) then (65536 : Int) else ((3 : Nat) : Int)) = 3)) ?_
 refine qO V <| zR1 V zB1 zZ0 V ((by decide : IntKind.i64.wrap 3 = 3)) ?_
 refine qO V <| zA2 V zJ2 zm24 (.cons zM1 sz3 V V (zB V) .nil) (by kernel_rfl) ?_
 refine qO V <| zH0 V zm24 V V <| qO V <| zY0 (by simp) V V V V sz24 V V (zB V) V ?_
 refine qN <| zA <| qR V <| qA V V V <| qN <| zA <| zA <| qR V <| qF V V V zM1 <| qO V <| zF0 (by simp) V V V ta3 V ?_
 refine qN <| zW <| zA <| zA <| qR V <| qC V V V V V <| qA V V V <| qN <| zJ V (V) <| zA <| qR V <| qC V V V V V <| qA V V V <| qN <| zJ V (V) <| zA <| qR V <| qC V V V V V <| qA V V V <| qN <| zX V (V) <| zQ <| zX V (V) <| zQ ?_
 refine zA <| zA <| qR V <| qM V V V <| qM V V V <| qN <| zW ?_
 refine zD1 (α := Nat) [(0, _), (1, _), (4, _), (5, _), (31, _)] (fun i => [(32, .int .i64 (0 : Int))]) (fun i => [.cells [.int .i64 0, .lst0], .cells [.int .i64 3, .lst0]]) (fun i => True) (fun i => 0) (0) (.keep V (.keep V (.keep V (.keep V (.keep V (.nil)))))) (.keep V (.nil)) (trivial) (V) ?_
 rintro i _
 refine zA <| qR V <| qC V V V V V <| qN <| zA <| zJ V (V) <| zA1 <| zA <| qR V <| qO V <| zF0 (by simp) V V V ta24 V ?_
 refine qO V <| zY0 (by simp) V V V V sz24 V V (zB V) V ?_
 refine qN <| zG ?_
 exact zB2 (y := encS (.mk 3 [])) (by simp) (.inr V) Tryz.results25 V V ta24 V (.agg (.cons (.refl _) (.cons (.nil 2) .nil))) (cl_encS _ _) (hcl.set (zG3 _ _)) Vv
theorem schR_short (deep : Int) (hd : 0 < deep) (id : Nat) (b : Bs) (S : MS) (h : S[id]? = some (rdO (b, none))) (hlen : b.length ≤ 8000000) (hn : numM (b, none) = (0, (b, some 11))) : MCalls Tryz.prog 25 [.ref id 0, .int .i64 deep] S fun v σ' => v = encS (.mk 0 []) ∧ σ' = S.set id (rdO (b, some 11)) := by
 refine zN Tryz.func25 V Tryz.ntmps25 (zB V) ?_
 refine zS0 fun _ hcl => ?_
 rw [List.append_nil] at hcl
 refine zA <| qR V <| qO V <| zH0 V zm24 V V <| qN <| zA <| zA <| qR V <| qM V V V <| qC V V V V V <| qN <| zJ V (decide_eq_false (by omega)) ?_
 refine zQ <| zA <| qR V <| qM V V V ?_
 refine qX V V V V co42 ((zU2 id).sl h hlen) ?_
 rw [hn]
 dsimp only
 refine qO V <| op_min2' V V V ((by decide : (if (65536 : Int) < ((0 : Nat) : Int) then (65536 : Int) else ((0 : Nat) : Int)) = 0)) ?_
 refine qO V <| zR1 V zB1 zZ0 V ((by decide : IntKind.i64.wrap 0 = 0)) ?_
 refine qO V <| zA2 V zJ2 zm24 (.cons zM1 sz3 V V (zB V) .nil) (by kernel_rfl) ?_
 refine qO V <| zH0 V zm24 V V <| qO V <| zY0 (by simp) V V V V sz24 V V (zB V) V ?_
 refine qN <| zA <| qR V <| qA V V V <| qN <| zA <| zA <| qR V <| qF V V V zM1 <| qO V <| zF0 (by simp) V V V ta3 V ?_
 refine qN <| zW <| zA <| zA <| qR V <| qC V V V V V <| qA V V V <| qN <| zJ V (V) <| zA <| qR V <| qC V V V V V <| qA V V V <| qN <| zJ V (V) <| zA <| qR V <| qC V V V V V <| qA V V V <| qN <| zJ V (V) <| zA <| qR V <| qC V V V V V ?_
 refine qA V V V <| qN <| zJ V (V) <| qR V <| qC V V V V V <| qA V V V <| qN <| zJ V (V) <| zA <| zA <| qR V <| qC V V V V V <| qA V V V <| qN <| zJ V (V) <| qR V <| qC V V V V V <| qA V V V <| qN <| zJ V (V) <| zA <| qR V <| qC V V V V V ?_
 refine qA V V V <| qN <| zJ V (V) <| qR V <| qM V V V ?_
 refine qX V V V V co24 (zK2 id (b, some 11) _ _ (zE3 h) _) ?_
 rw [fail_err, zI3]
 refine qN <| zA <| zA <| qR V <| qM V V V <| qM V V V <| qN <| zW ?_
 refine zD1 (α := Nat) [(0, _), (1, _), (4, _), (5, _), (31, _)] (fun i => [(32, .int .i64 (0 : Int))]) (fun i => [.cells [.int .i64 0, .lst0], .cells [.int .i64 0, .lst0]]) (fun i => True) (fun i => 0) (0) (.keep V (.keep V (.keep V (.keep V (.keep V (.nil)))))) (.keep V (.nil)) (trivial) (V) ?_
 rintro i _
 refine zA <| qR V <| qC V V V V V <| qN <| zA <| zJ V (V) <| zA1 <| zA <| qR V <| qO V <| zF0 (by simp) V V V ta24 V ?_
 refine qO V <| zY0 (by simp) V V V V sz24 V V (zB V) V ?_
 refine qN <| zG ?_
 exact zB2 (y := encS (.mk 0 [])) (by simp) (.inr V) Tryz.results25 V V ta24 V (.agg (.cons (.refl _) (.cons (.nil 2) .nil))) (cl_encS _ _) (hcl.set (zG3 _ _)) Vv
theorem _root_.zM3 : type_of% @Tryz.underlying62 := @Tryz.underlying62
theorem readS_leaf (b rest : Bs) (hlen : b.length ≤ 8000000) (hn : numM (b, none) = (3, (rest, none))) (S : MS) : MCalls Tryz.prog 9 [.str (bs b)] S fun v σ' => v = .tup [encS (.mk 3 []), .str (bs rest), .iface0] ∧ σ' = S := by
 refine zN Tryz.func9 V Tryz.ntmps9 (zB V) ?_
 refine zS0 fun _ hcl => ?_
 rw [List.append_nil] at hcl
 refine zA <| qR V <| qO V <| zH0 V zm24 V V <| qA V V V <| qA V V V <| qN <| zA <| qR V <| qM V V V <| qO V <| zA2 V zM3 zm62 (.cons zP3 sz9 V V (zB V) .nil) (by kernel_rfl) ?_
 refine qB V V V V V <| qA V V V <| qN <| zA <| qR V ?_
 have hst : (S ++ [MObj.cells [.int .i64 0, .lst0], rdO (b, none)]).set (S.length + 1) (rdO (rest, none)) = S ++ [MObj.cells [.int .i64 0, .lst0], rdO (rest, none)] := by rw [zY3]; rfl
 refine qM V V V ?_
 refine qX V V V V co25 ((schR_leaf 16 (by decide) (S.length + 1) b rest (S ++ [MObj.cells [.int .i64 0, .lst0], rdO (b, none)]) (by rw [getElem?_own]; rfl) hlen hn)) ?_
 rw [hst]
 refine qO V <| zH0 V zm24 V V <| qO V <| zT0 V V V V sz24 V V (zB V) V <| qN <| zA <| zA <| qR V <| qM V V V <| qO V <| zE0 V V V <| qF V V V zH2 <| qL V V V V ta37 V <| qO V <| zC4 V zG0 V V (.inr Vv) <| qN <| zJ V (V) <| zQ <| zA ?_
 refine zV0 [5] [_, S ++ [.cells [.int .i64 3, .lst none 2 []], rdO (rest, none), .cells [.int .i64 3, .lst none 2 []]]] mo (by decide) V V V V ?_
 refine dO V V V (zL0 V V V ta24 V Vv) <| zV V V (.cons (zY V V Vv) (.cons (zY V V Vv) (.nil))) <| zV V V (.cons (zE0 V V V Vv) (.cons (zE0 V V V Vv) (.nil))) <| zV V V (.cons (zL V V zP3 Vv) (.cons (zL V V zP3 Vv) (.nil))) <| zV V V (.cons (zL0 V V V ta9 V Vv) (.cons (zL0 V V V ta9 V Vv) (.nil))) <| zG1 V V V V (zT0 V V V V sz24 V V (zB V) V Vv) <| dO V V V (zC1 V V Vv) <| dO V V V (zC1 V V Vv) <| zO0 <| zG ?_
 exact ret_ctt (y := encS (.mk 3 [])) (y2 := .str (bs rest)) (y3 := .iface0) (.inr V) Tryz.results9 V V ta24 V (.refl _) (cl_encS _ _) V (.refl _) (.str _) V (.refl _) .iface0 Vv
theorem readS_short (b : Bs) (hlen : b.length ≤ 8000000) (hn : numM (b, none) = (0, (b, some 11))) (S : MS) : MCalls Tryz.prog 9 [.str (bs b)] S fun v σ' => v = .tup [encS (.mk 0 []), .str (bs b), (.iface 45 (.int .i64 11))] ∧ σ' = S := by
 refine zN Tryz.func9 V Tryz.ntmps9 (zB V) ?_
 refine zS0 fun _ hcl => ?_
 rw [List.append_nil] at hcl
 refine zA <| qR V <| qO V <| zH0 V zm24 V V <| qA V V V <| qA V V V <| qN <| zA <| qR V <| qM V V V <| qO V <| zA2 V zM3 zm62 (.cons zP3 sz9 V V (zB V) .nil) (by kernel_rfl) ?_
 refine qB V V V V V <| qA V V V <| qN <| zA <| qR V ?_
 have hst : (S ++ [MObj.cells [.int .i64 0, .lst0], rdO (b, none)]).set (S.length + 1) (rdO (b, some 11)) = S ++ [MObj.cells [.int .i64 0, .lst0], rdO (b, some 11)] := by rw [zY3]; rfl
 refine qM V V V ?_
 refine qX V V V V co25 ((schR_short 16 (by decide) (S.length + 1) b (S ++ [MObj.cells [.int .i64 0, .lst0], rdO (b, none)]) (by rw [getElem?_own]; rfl) hlen hn)) ?_
 rw [hst]
 refine qO V <| zH0 V zm24 V V <| qO V <| zT0 V V V V sz24 V V (zB V) V <| qN <| zA <| zA <| qR V <| qM V V V <| qO V <| zE0 V V V <| qF V V V zH2 <| qL V V V V ta37 V <| qO V <| zY2 V zG0 V V (.inr Vv) <| qN <| zX V (V) <| zA ?_
 refine zV0 [6] [_, S ++ [.cells [.int .i64 0, .lst0], rdO (b, some 11), .cells [.int .i64 0, .lst none 2 []]]] mo (by decide) V V V V ?_
 refine dO V V V (zA2 V zJ2 zm24 .nil (by kernel_rfl) Vv) ?_
 refine zV V V (.cons (zY V V Vv) (.cons (zY V V Vv) (.nil))) <| zV V V (.cons (zY V V Vv) (.cons (zY V V Vv) (.nil))) <| zV V V (.cons (zE0 V V V Vv) (.cons (zE0 V V V Vv) (.nil))) <| zV V V (.cons (zL V V zH2 Vv) (.cons (zL V V zH2 Vv) (.nil))) <| zV V V (.cons (zL0 V V V ta37 V Vv) (.cons (zL0 V V V ta37 V Vv) (.nil))) <| zG1 V V V V (zT0 V V V V sz24 V V (zB V) V Vv) <| dO V V V (zC1 V V Vv) <| dO V V V (zC1 V V Vv) <| zO0 <| zG ?_
 exact ret_ctt (y := encS (.mk 0 [])) (y2 := .str (bs b)) (y3 := (.iface 45 (.int .i64 11))) (.inr V) Tryz.results9 V V ta24 V (.agg (.cons (.refl _) (.cons (.nil 2) .nil))) (cl_encS _ _) V (.refl _) (.str _) V (.refl _) (cl_ER _ _) Vv
theorem read_good (k : Int) (ins : List Sch) (his : isF 16 (.mk k ins) = true) {M : RdS → Val × RdS} (hM : ∀ id, Reads 23 [.ref id 0, encS (.mk k ins)] id encV M) (b rest : Bs) (hlen : b.length ≤ 8000000) (n m : Int) (s : List Bs) (c : List (List Tk)) (w : List Val) (hm : M (b, none) = (.mk n m s c w, (rest, none))) (hok : okV (.mk n m s c w)) (hfit : (isF 16 (.mk k ins) && isVF (.mk k ins) (.mk n m s c w)) = true) (S : MS) : MCalls Tryz.prog 8 [encS (.mk k ins), .str (bs b)] S fun v σ' => v = .tup [encV (.mk n m s c w), .str (bs rest), .iface0] ∧ σ' = S := by
 refine zN Tryz.func8 V Tryz.ntmps8 (zB V) ?_
 refine zS0 fun _ hcl => ?_
 rw [List.append_nil] at hcl
 refine zA <| qR V <| qB V V V V V <| qO V <| zH0 V zm30 V V <| qA V V V <| qA V V V <| qN <| zA <| zA <| qR V <| qL V V V V ta24 V ?_
 refine qX V V V V co21 (Is_spec (.mk k ins) _) ?_
 refine qO V <| zL1 V V <| qN <| zJ V (by rw [his]; rfl) ?_
 refine zQ <| zA <| qR V <| qM V V V <| qO V <| zA2 V zM3 zm62 (.cons zP3 sz9 V V (zB V) .nil) (by kernel_rfl) ?_
 refine qB V V V V V <| qA V V V <| qN <| zA <| qR V ?_
 have hst : (S ++ [MObj.cells (encS (.mk k ins)).cells, MObj.cells [.int .u64 0, .int .u64 0, .lst0, .lst0, .lst0], rdO (b, none)]).set (S.length + 2) (rdO (rest, none)) = S ++ [MObj.cells (encS (.mk k ins)).cells, MObj.cells [.int .u64 0, .int .u64 0, .lst0, .lst0, .lst0], rdO (rest, none)] := by rw [zY3]; rfl
 refine qM V V V <| qL V V V V ta24 V ?_
 refine qX V V V V co23 (((hM (S.length + 2)) (b, none) (S ++ [MObj.cells (encS (.mk k ins)).cells, MObj.cells [.int .u64 0, .int .u64 0, .lst0, .lst0, .lst0], rdO (b, none)]) (by rw [getElem?_own]; rfl) hlen)) ?_
 rw [hm]
 dsimp only
 rw [hst]
 refine qO V <| zH0 V zm30 V V <| qO V <| zT0 V V V V sz30 V V (zB V) V <| qN <| zA <| zA <| qR V <| qM V V V <| qO V <| zE0 V V V <| qF V V V zH2 <| qL V V V V ta37 V <| qO V <| zC4 V zG0 V V (.inl Vv) <| qM V V V <| qL V V V V ta24 V <| qL V V V V ta30 V ?_
 refine qX V V V V co18 (valIs_spec (.mk k ins) (.mk n m s c w) hok _) ?_
 refine qO V <| zL1 V V <| qP V V V V <| qN <| zJ V (by rw [hfit]; rfl) ?_
 refine zQ <| zA <| zA <| qR V <| qM V V V <| qO V <| zE0 V V V <| qF V V V zH2 <| qL V V V V ta37 V <| qO V <| zC4 V zG0 V V (.inr Vv) <| qN <| zJ V (V) <| zQ <| zA ?_
 refine zV0 [5] [_, S ++ [.cells (encS (.mk k ins)).cells, .cells (encV (.mk n m s c w)).cells, rdO (rest, none), .cells (encV (.mk n m s c w)).cells]] mo (by decide) V V V V ?_
 refine dO V V V (zL0 V V V ta30 V Vv) <| zV V V (.cons (zY V V Vv) (.cons (zY V V Vv) (.nil))) <| zV V V (.cons (zE0 V V V Vv) (.cons (zE0 V V V Vv) (.nil))) <| zV V V (.cons (zL V V zP3 Vv) (.cons (zL V V zP3 Vv) (.nil))) <| zV V V (.cons (zL0 V V V ta9 V Vv) (.cons (zL0 V V V ta9 V Vv) (.nil))) <| zG1 V V V V (zT0 V V V V sz30 V V (zB V) V Vv) <| dO V V V (zC1 V V Vv) <| dO V V V (zC1 V V Vv) <| zO0 <| zG ?_
 exact ret_ctt (y := encV (.mk n m s c w)) (y2 := .str (bs rest)) (y3 := .iface0) (.inr V) Tryz.results8 V V ta30 V (.refl _) (zG2 _ _) V (.refl _) (.str _) V (.refl _) .iface0 Vv
theorem read_bad (k : Int) (ins : List Sch) (his : isF 16 (.mk k ins) = true) {M : RdS → Val × RdS} (hM : ∀ id, Reads 23 [.ref id 0, encS (.mk k ins)] id encV M) (b rest : Bs) (hlen : b.length ≤ 8000000) (n m : Int) (s : List Bs) (c : List (List Tk)) (w : List Val) (hm : M (b, none) = (.mk n m s c w, (rest, none))) (hok : okV (.mk n m s c w)) (hfit : (isF 16 (.mk k ins) && isVF (.mk k ins) (.mk n m s c w)) = false) (S : MS) : MCalls Tryz.prog 8 [encS (.mk k ins), .str (bs b)] S fun v σ' => v = .tup [encV noV, .str (bs b), (.iface 45 (.int .i64 10))] ∧ σ' = S := by
 refine zN Tryz.func8 V Tryz.ntmps8 (zB V) ?_
 refine zS0 fun _ hcl => ?_
 rw [List.append_nil] at hcl
 refine zA <| qR V <| qB V V V V V <| qO V <| zH0 V zm30 V V <| qA V V V <| qA V V V <| qN <| zA <| zA <| qR V <| qL V V V V ta24 V ?_
 refine qX V V V V co21 (Is_spec (.mk k ins) _) ?_
 refine qO V <| zL1 V V <| qN <| zJ V (by rw [his]; rfl) ?_
 refine zQ <| zA <| qR V <| qM V V V <| qO V <| zA2 V zM3 zm62 (.cons zP3 sz9 V V (zB V) .nil) (by kernel_rfl) ?_
 refine qB V V V V V <| qA V V V <| qN <| zA <| qR V ?_
 have hst : (S ++ [MObj.cells (encS (.mk k ins)).cells, MObj.cells [.int .u64 0, .int .u64 0, .lst0, .lst0, .lst0], rdO (b, none)]).set (S.length + 2) (rdO (rest, none)) = S ++ [MObj.cells (encS (.mk k ins)).cells, MObj.cells [.int .u64 0, .int .u64 0, .lst0, .lst0, .lst0], rdO (rest, none)] := by rw [zY3]; rfl
 refine qM V V V <| qL V V V V ta24 V ?_
 refine qX V V V V co23 (((hM (S.length + 2)) (b, none) (S ++ [MObj.cells (encS (.mk k ins)).cells, MObj.cells [.int .u64 0, .int .u64 0, .lst0, .lst0, .lst0], rdO (b, none)]) (by rw [getElem?_own]; rfl) hlen)) ?_
 rw [hm]
 dsimp only
 rw [hst]
 refine qO V <| zH0 V zm30 V V <| qO V <| zT0 V V V V sz30 V V (zB V) V <| qN <| zA <| zA <| qR V <| qM V V V <| qO V <| zE0 V V V <| qF V V V zH2 <| qL V V V V ta37 V <| qO V <| zC4 V zG0 V V (.inl Vv) <| qM V V V <| qL V V V V ta24 V <| qL V V V V ta30 V ?_
 refine qX V V V V co18 (valIs_spec (.mk k ins) (.mk n m s c w) hok _) ?_
 refine qO V <| zL1 V V <| qP V V V V <| qN <| zX V (by rw [hfit]; rfl) ?_
 refine qR V <| qM V V V ?_
 refine qX V V V V co24 ((fails0 (S.length + 2) (rest, none) (S ++ [MObj.cells (encS (.mk k ins)).cells, MObj.cells [.int .u64 0, .int .u64 0, .lst0, .lst0, .lst0], rdO (rest, none), MObj.cells (encV (.mk n m s c w)).cells]) (by rw [getElem?_own]; rfl) _)) ?_
 rw [zY3]
 refine qN <| zA <| zA <| qR V <| qM V V V <| qO V <| zE0 V V V <| qF V V V zH2 <| qL V V V V ta37 V <| qO V <| zY2 V zG0 V V (.inr Vv) <| qN <| zX V (V) <| zA ?_
 refine zV0 [6] [_, S ++ [.cells (encS (.mk k ins)).cells, .cells [.int .u64 0, .int .u64 0, .lst0, .lst0, .lst0], rdO (rest, some 10), .cells (encV (.mk n m s c w)).cells]] mo (by decide) V V V V ?_
 refine dO V V V (zA2 V zU1 zm30 .nil (by kernel_rfl) Vv) ?_
 refine zV V V (.cons (zY V V Vv) (.cons (zY V V Vv) (.nil))) <| zV V V (.cons (zY V V Vv) (.cons (zY V V Vv) (.nil))) <| zV V V (.cons (zE0 V V V Vv) (.cons (zE0 V V V Vv) (.nil))) <| zV V V (.cons (zL V V zH2 Vv) (.cons (zL V V zH2 Vv) (.nil))) <| zV V V (.cons (zL0 V V V ta37 V Vv) (.cons (zL0 V V V ta37 V Vv) (.nil))) <| zG1 V V V V (zT0 V V V V sz30 V V (zB V) V Vv) <| dO V V V (zC1 V V Vv) <| dO V V V (zC1 V V Vv) <| zO0 <| zG ?_
 exact ret_ctt (y := encV noV) (y2 := .str (bs b)) (y3 := (.iface 45 (.int .i64 10))) (.inr V) Tryz.results8 V V ta30 V (.agg (.cons (.refl _) (.cons (.refl _) (.cons (.nil 1) (.cons (.nil 1) (.cons (.nil 5) .nil)))))) (zG2 _ _) V (.refl _) (.str _) V (.refl _) (cl_ER _ _) Vv
theorem read_err (k : Int) (ins : List Sch) (his : isF 16 (.mk k ins) = true) {M : RdS → Val × RdS} (hM : ∀ id, Reads 23 [.ref id 0, encS (.mk k ins)] id encV M) (b rest : Bs) (hlen : b.length ≤ 8000000) (n m : Int) (s : List Bs) (c : List (List Tk)) (w : List Val) (e : Int) (hm : M (b, none) = (.mk n m s c w, (rest, some e))) (S : MS) : MCalls Tryz.prog 8 [encS (.mk k ins), .str (bs b)] S fun v σ' => v = .tup [encV noV, .str (bs b), (.iface 45 (.int .i64 e))] ∧ σ' = S := by
 refine zN Tryz.func8 V Tryz.ntmps8 (zB V) ?_
 refine zS0 fun _ hcl => ?_
 rw [List.append_nil] at hcl
 refine zA <| qR V <| qB V V V V V <| qO V <| zH0 V zm30 V V <| qA V V V <| qA V V V <| qN <| zA <| zA <| qR V <| qL V V V V ta24 V ?_
 refine qX V V V V co21 (Is_spec (.mk k ins) _) ?_
 refine qO V <| zL1 V V <| qN <| zJ V (by rw [his]; rfl) ?_
 refine zQ <| zA <| qR V <| qM V V V <| qO V <| zA2 V zM3 zm62 (.cons zP3 sz9 V V (zB V) .nil) (by kernel_rfl) ?_
 refine qB V V V V V <| qA V V V <| qN <| zA <| qR V ?_
 have hst : (S ++ [MObj.cells (encS (.mk k ins)).cells, MObj.cells [.int .u64 0, .int .u64 0, .lst0, .lst0, .lst0], rdO (b, none)]).set (S.length + 2) (rdO (rest, some e)) = S ++ [MObj.cells (encS (.mk k ins)).cells, MObj.cells [.int .u64 0, .int .u64 0, .lst0, .lst0, .lst0], rdO (rest, some e)] := by rw [zY3]; rfl
 refine qM V V V <| qL V V V V ta24 V ?_
 refine qX V V V V co23 (((hM (S.length + 2)) (b, none) (S ++ [MObj.cells (encS (.mk k ins)).cells, MObj.cells [.int .u64 0, .int .u64 0, .lst0, .lst0, .lst0], rdO (b, none)]) (by rw [getElem?_own]; rfl) hlen)) ?_
 rw [hm]
 dsimp only
 rw [hst]
 refine qO V <| zH0 V zm30 V V <| qO V <| zT0 V V V V sz30 V V (zB V) V <| qN <| zA <| zA <| qR V <| qM V V V <| qO V <| zE0 V V V <| qF V V V zH2 <| qL V V V V ta37 V <| qO V <| zY2 V zG0 V V (.inl Vv) <| qM V V V <| qT V V V V <| qP V V V V <| qN <| zJ V (V) <| zQ <| zA ?_
 refine zA <| qR V <| qM V V V <| qO V <| zE0 V V V <| qF V V V zH2 <| qL V V V V ta37 V <| qO V <| zY2 V zG0 V V (.inr Vv) <| qN <| zX V (V) <| zA ?_
 refine zV0 [6] [_, S ++ [.cells (encS (.mk k ins)).cells, .cells [.int .u64 0, .int .u64 0, .lst0, .lst0, .lst0], rdO (rest, some e), .cells (encV (.mk n m s c w)).cells]] mo (by decide) V V V V ?_
 refine dO V V V (zA2 V zU1 zm30 .nil (by kernel_rfl) Vv) ?_
 refine zV V V (.cons (zY V V Vv) (.cons (zY V V Vv) (.nil))) <| zV V V (.cons (zY V V Vv) (.cons (zY V V Vv) (.nil))) <| zV V V (.cons (zE0 V V V Vv) (.cons (zE0 V V V Vv) (.nil))) <| zV V V (.cons (zL V V zH2 Vv) (.cons (zL V V zH2 Vv) (.nil))) <| zV V V (.cons (zL0 V V V ta37 V Vv) (.cons (zL0 V V V ta37 V Vv) (.nil))) <| zG1 V V V V (zT0 V V V V sz30 V V (zB V) V Vv) <| dO V V V (zC1 V V Vv) <| dO V V V (zC1 V V Vv) <| zO0 <| zG ?_
 exact ret_ctt (y := encV noV) (y2 := .str (bs b)) (y3 := (.iface 45 (.int .i64 e))) (.inr V) Tryz.results8 V V ta30 V (.agg (.cons (.refl _) (.cons (.refl _) (.cons (.nil 1) (.cons (.nil 1) (.cons (.nil 5) .nil)))))) (zG2 _ _) V (.refl _) (.str _) V (.refl _) (cl_ER _ _) Vv
def SchR (deep : Int) (b rest : Bs) (s : Sch) : Prop := ∀ (id : Nat) (S : MS), S[id]? = some (rdO (b, none)) → b.length ≤ 8000000 → MCalls Tryz.prog 25 [.ref id 0, .int .i64 deep] S fun v σ' => v = encS s ∧ σ' = S.set id (rdO (rest, none))
theorem SchR.sl {deep : Int} {b rest : Bs} {s : Sch} (h : SchR deep b rest s) {id : Nat} {S : MS} (hS : S[id]? = some (rdO (b, none))) (hl : b.length ≤ 8000000) (L : MS) : MCalls Tryz.prog 25 [.ref id 0, .int .i64 deep] (S ++ L) fun v σ' => v = encS s ∧ σ' = S.set id (rdO (rest, none)) ++ L :=
 (h id (S ++ L) (zO3 hS) hl).mono fun v σ' hv => ⟨hv.1, by rw [hv.2, set_sl hS]⟩
def schGo (f : RdS → Sch × RdS) : Nat → List Sch → RdS → List Sch × RdS
 | 0, acc, r => (acc, r)
 | n + 1, acc, r => if r.2.isSome then schGo f n acc r else schGo f n (acc ++ [(f r).1]) (f r).2
def schM : Nat → RdS → Sch × RdS
 | 0, r => (.mk 0 [], failR 13 r)
 | d + 1, r => if partsF ((min (numM r).1 65536 : Nat) : Int) < 0 then (.mk ((min (numM r).1 65536 : Nat) : Int) [], failR 10 (numM r).2)
  else (.mk ((min (numM r).1 65536 : Nat) : Int) (schGo (schM d) (partsF ((min (numM r).1 65536 : Nat) : Int)).toNat [] (numM r).2).1, (schGo (schM d) (partsF ((min (numM r).1 65536 : Nat) : Int)).toNat [] (numM r).2).2)
theorem schGo_err (f : RdS → Sch × RdS) (b : Bs) (e : Int) : ∀ n acc, schGo f n acc (b, some e) = (acc, (b, some e))
 | 0, acc => rfl
 | n + 1, acc => by
  rw [schGo]
  exact (if_pos rfl).trans (schGo_err f b e n acc)
theorem parts_k {k : Int} {ins : List Sch} (h : partsF k = (ins.length : Int)) : ∃ q : Nat, k = (q : Int) ∧ 1 ≤ q ∧ q ≤ 8 := by
 rcases kinds h with ⟨hk, _⟩ | ⟨rfl, _⟩ | ⟨rfl, _⟩ | ⟨rfl, _⟩ | ⟨_, rfl, _⟩ | ⟨_, rfl, _⟩ | ⟨_, _, rfl, _⟩
 ·rcases hk with rfl | rfl
  ·exact ⟨1, rfl, by decide, by decide⟩
  ·exact ⟨2, rfl, by decide, by decide⟩
 ·exact ⟨3, rfl, by decide, by decide⟩
 ·exact ⟨6, rfl, by decide, by decide⟩
 ·exact ⟨7, rfl, by decide, by decide⟩
 ·exact ⟨4, rfl, by decide, by decide⟩
 ·exact ⟨8, rfl, by decide, by decide⟩
 ·exact ⟨5, rfl, by decide, by decide⟩
theorem schM_num {d q : Nat} {b l : Bs} {n : Nat} (hn : numM (b, none) = (q, (l, none))) (hq : q ≤ 8) (hp : partsF (q : Int) = (n : Int)) : schM (d + 1) (b, none) = (.mk (q : Int) (schGo (schM d) n [] (l, none)).1, (schGo (schM d) n [] (l, none)).2) := by
 rw [schM, hn]
 simp only
 rw [Nat.min_eq_left (by omega), hp, if_neg (by omega), Int.toNat_natCast]
theorem schM_bad {d : Nat} {b : Bs} {e : Int} (hn : numM (b, none) = (0, (b, some e))) : schM (d + 1) (b, none) = (.mk 0 [], (b, some e)) := by
 rw [schM, hn]
 rfl
mutual
theorem sch_back : ∀ (d : Nat) (s : Sch) (rest : Bs), isF d s = true → schM d (schB s ++ rest, none) = (s, (rest, none))
 | 0, s, rest, h => by simp [isF] at h
 | d + 1, .mk k ins, rest, h => by
  simp only [isF, Bool.and_eq_true, beq_iff_eq, List.all_eq_true] at h
  obtain ⟨q, rfl, h1, h2⟩ := parts_k h.1
  have hn := zL4 q (schBs ins ++ rest) (by omega)
  rw [schB, Int.toNat_natCast, zR, schM_num hn h2 h.1, schs_back d ins [] rest h.2]
  rfl
theorem schs_back : ∀ (d : Nat) (l : List Sch) (acc : List Sch) (rest : Bs), (∀ x ∈ l, isF d x = true) → schGo (schM d) l.length acc (schBs l ++ rest, none) = (acc ++ l, (rest, none))
 | d, [], acc, rest, _ => by simp [schGo, schBs]
 | d, s :: l, acc, rest, h => by
  rw [zC0, schGo, if_neg (by simp), schBs, zR, sch_back d s _ (h s (.head _))]
  simp only
  rw [schs_back d l _ rest fun x hx => h x (.tail _ hx)]
  simp
end
mutual
theorem sch_short : ∀ (d : Nat) (s : Sch) (p q : Bs), isF d s = true → schB s = p ++ q → q ≠ [] → (schM d (p, none)).2.2 = some 11
 | 0, s, p, q, h, _, _ => by simp [isF] at h
 | d + 1, .mk k ins, p, q, h, e, hq => by
  simp only [isF, Bool.and_eq_true, beq_iff_eq, List.all_eq_true] at h
  obtain ⟨m, rfl, h1, h2⟩ := parts_k h.1
  rw [schB, Int.toNat_natCast] at e
  rcases cut_two e hq with ⟨q', e1, hq'⟩ | ⟨p', e1, e2⟩
  ·rw [schM_bad (num_short (by omega) e1 hq')]
  ·subst e1
   rw [schM_num (zL4 m p' (by omega)) h2 h.1]
   exact schs_short d ins [] p' q h.2 e2 hq
theorem schs_short : ∀ (d : Nat) (l : List Sch) (acc : List Sch) (p q : Bs), (∀ x ∈ l, isF d x = true) → schBs l = p ++ q → q ≠ [] → (schGo (schM d) l.length acc (p, none)).2.2 = some 11
 | d, [], acc, p, q, _, e, hq => by
  rw [schBs] at e
  exact absurd (List.append_eq_nil_iff.1 e.symm).2 hq
 | d, s :: l, acc, p, q, h, e, hq => by
  rw [zC0, schGo, if_neg (by simp)]
  rw [schBs] at e
  rcases cut_two e hq with ⟨q', e1, hq'⟩ | ⟨p', e1, e2⟩
  ·have h1 := sch_short d s p q' (h s (.head _)) e1 hq'
   rw [show (schM d (p, none)).2 = ((schM d (p, none)).2.1, some 11) from Prod.ext rfl h1, schGo_err]
  ·subst e1
   rw [sch_back d s p' (h s (.head _))]
   exact schs_short d l _ p' q (fun x hx => h x (.tail _ hx)) e2 hq
end
theorem schGo_len {f : RdS → Sch × RdS} (hf : ∀ r, (f r).2.1.length ≤ r.1.length) : ∀ n acc r, (schGo f n acc r).2.1.length ≤ r.1.length
 | 0, acc, r => Nat.le_refl _
 | n + 1, acc, r => by
  rw [schGo]
  split
  ·exact schGo_len hf n acc r
  ·exact Nat.le_trans (schGo_len hf n _ _) (hf r)
theorem schM_len : ∀ (d : Nat) (r : RdS), (schM d r).2.1.length ≤ r.1.length
 | 0, r => Nat.le_refl _
 | d + 1, r => by
  have := (zV2 r).1
  rw [schM]
  split
  ·exact this
  ·exact Nat.le_trans (schGo_len (schM_len d) _ _ _) this
end Go.Proofs.YtplclefbiimnbaaGreat
namespace Go.MV
open Go Go.RowKit
section
section
variable {P : Program} {rd : Option Nat} {o : Oper} {env : Env} {σ : MS} {K : MV → MS → Prop}
end
end
section
section
variable {P : Program} {rd : Option Nat} {o : Oper} {env : Env} {σ : MS} {K : MV → MS → Prop}
end
theorem Rel.freeze {g : Gh} {σ : MS} {w : World} (h : Rel g σ w) {id b k : Nat} {l : List MV} (hσ : σ[id]? = some (.cells l)) (hb : g.bk id = some b) (hk : k ≤ l.length) :
  Rel (g.stab b k) (σ.set id .gone) w ∧ Le g w (g.stab b k) w := by
 obtain ⟨own, hown⟩ := h.ex
 obtain ⟨b', us, ty, e1, e2, e3, ⟨fr, e4, _⟩, e5⟩ := hown.obj _ _ hσ
 rw [hb] at e2
 injection e2 with e2
 subst e2
 have hle : Le g w (g.stab b k) w := by
  refine ⟨⟨rfl, rfl, fun c i hi => ⟨?_, rfl⟩, fun _ _ h => h, fun _ _ _ h => h, Nat.le_refl _⟩, fun _ _ h => h⟩
  simp only [Gh.stab]
  split
  ·rename_i e; subst e; omega
  ·exact hi
 have hg := h.gone id
 refine ⟨⟨h.below, h.base, fun c hc => ?_, fun i hi => h.bkn i (by simpa using hi), fun t n ht => h.lgn t n (by simpa using ht), ?_⟩, hle⟩
 ·simp only [Gh.stab]
  split
  ·rename_i e
   subst e
   have := (hown.lt id c e1).2.2
   omega
  ·exact h.fresh c hc
 ·refine ⟨fun i => if i = id then none else own i, ⟨fun i ob hi => ?_, fun i j c hi hj => ?_, fun i c hi => ?_⟩⟩
  ·by_cases e : i = id
   ·subst e
    rw [List.getElem?_set, if_pos rfl] at hi
    split at hi
    ·injection hi with hi
     subst hi
     simp [ObjRel]
    ·cases hi
   ·rw [if_neg e]
    rw [List.getElem?_set_ne (fun h => e h.symm)] at hi
    refine (hown.obj i ob hi).keep0 hle.toLe0 (fun c hc => ⟨rfl, ?_⟩) (fun _ => V)
    simp only [Gh.stab]
    rw [if_neg]
    intro ec
    subst ec
    exact e (hown.inj _ _ _ hc e1)
  ·split at hi
   ·cases hi
   ·split at hj
    ·cases hj
    ·exact hown.inj i j c hi hj
  ·split at hi
   ·cases hi
   ·obtain ⟨h1, h2⟩ := hown.lt i c hi
    exact ⟨by simpa using h1, h2⟩
section
variable {P : Program} {rd : Option Nat} {N n : Nat} {c : Code} {Q : Exit → Env → MS → Prop} {env : Env} {S L : MS}
end
end
end Go.MV
namespace Go.Proofs.YtplclefbiimnbaaGreat
open Go Go.MV Go.RowKit
def vK : Val := .mk 0 0 [[97], [98]] [] []
def vK2 : Val := .mk 0 0 [[98], [97]] [] []
theorem numB3 : numB 3 = [3] := by rw [zC5 (by decide)]; rfl
theorem numB2 : numB 2 = [2] := by rw [zC5 (by decide)]; rfl
theorem numB1 : numB 1 = [1] := by rw [zC5 (by decide)]; rfl
theorem numB128 : numB 128 = [128, 1] := by rw [numB_hi (by decide), zC5 (by decide)]; rfl
theorem schB3 : schB (.mk 3 []) = [3] := by
 rw [schB, schBs, List.append_nil]
 exact numB3
theorem vK_B : flatB 3 vK = [2, 1, 97, 1, 98] := by
 show numB 2 ++ ((numB 1 ++ [97]) ++ ((numB 1 ++ [98]) ++ [])) = _
 rw [numB2, numB1]
 rfl
theorem textB_a : textB [97] = [1, 97] := by
 show numB 1 ++ [97] = _
 rw [numB1]
 rfl
theorem isF3 : isF 16 (.mk 3 []) = true := by decide
theorem vK_yes : (isF 16 (.mk 3 []) && isVF (.mk 3 []) vK) = true := by
 rw [isF3, Bool.true_and, vK, isVF]
 rfl
theorem vK2_no : (isF 16 (.mk 3 []) && isVF (.mk 3 []) vK2) = false := by
 rw [isF3, Bool.true_and, vK2, isVF]
 rfl
theorem vK_ok : okV vK := by simp [vK, okV, okVs]
theorem vK2_ok : okV vK2 := by simp [vK2, okV, okVs]
theorem hn3 : numM ([3] ++ [120], none) = (3, ([120], none)) := by rfl
theorem hn0 : numM ([], none) = (0, ([], some 11)) := by rfl
theorem hmK : flatM 3 ([2, 1, 97, 1, 98] ++ [121], none) = (vK, ([121], none)) := by rfl
theorem hmK2 : flatM 3 ([2, 1, 98, 1, 97], none) = (vK2, ([], none)) := by rfl
theorem same3 (S : MS) : MCalls Tryz.prog 11 [encS (.mk 3 []), encS (.mk 3 [])] S fun v σ' => v = .bool true ∧ σ' = S := by
 refine zN Tryz.func11 V Tryz.ntmps11 (zB V) ?_
 refine zA <| qR V <| qB V V V V V <| qB V V V V V <| qA V V V <| qN <| zA <| zA <| qR V <| qF V V V zM1 <| qL V V V V ta3 V <| qF V V V zM1 <| qL V V V V ta3 V <| qC V V V V V <| qM V V V <| qF V V V zC2 <| qL V V V V ta22 V <| qE V V zD0 V ?_
 refine qF V V V zC2 <| qL V V V V ta22 V <| qE V V zD0 V <| qC V V V V V <| qP V V V V <| qN <| zJ V (V) <| zQ <| zA <| zA <| qR V <| qA V V V <| qN <| zW ?_
 refine zD1 (α := Nat) [(2, _), (3, _)] (fun i => [(5, .int .i64 (0 : Int))]) (fun i => [.cells (encS (.mk 3 [])).cells, .cells (encS (.mk 3 [])).cells]) (fun i => True) (fun i => 0) (0) (.keep V (.keep V (.nil))) (.keep V (.nil)) (trivial) (V) ?_
 rintro i _
 refine zA <| zA <| qR V <| qM V V V <| qF V V V zC2 <| qL V V V V ta22 V <| qE V V zD0 V <| qC V V V V V <| qN <| zJ V (V) <| zA1 <| zA <| qR V <| qA V V V <| qN <| zG ?_
 exact zK (.inr V) Tryz.results11 V (.of_eq (V)) (.bool _) Vv
theorem known9_spec (S : MS) : MCalls Tryz.prog 4 [] S fun v σ' => v = .bool true ∧ σ' = S := by
 refine zN Tryz.func4 V Tryz.ntmps4 (zB V) ?_
 refine zA <| qR V <| qA V V V <| qN <| zA <| qR V <| qO V <| zA2 V zJ2 zm24 (.cons zM1 sz3 V V (zB V) .nil) (by kernel_rfl) ?_
 refine qO V <| zH0 V zm24 V V <| qO V <| zT0 V V V V sz24 V V (zB V) V <| qN <| zA <| qR V <| qL V V V V ta24 V ?_
 refine qX V V V V co7 ((schema_spec (.mk 3 []) isF3 _).sub (.cons (.agg (.cons (.refl _) (.cons (.nil 2) .nil))) .nil)) ?_
 rw [schB3]
 refine qO V <| zD5 V V V (by decide) ?_
 refine qX V V V V co9 (readS_leaf ([3] ++ [120]) [120] (by decide) hn3 _) ?_
 refine qM V V V <| qO V <| zN0 V V V <| qO V <| zN0 V V V <| qO V <| zN0 V V V <| qO V <| zH0 V zm24 V V <| qO V <| zT0 V V V V sz24 V V (zB V) V <| qA V V V <| qA V V V <| qN <| zA ?_
 refine zV0 [11, 12] [_, S ++ [.cells [.int .i64 3, .lst0], .cells (encS (.mk 3 [])).cells, .cells [.int .u64 0, .int .u64 0, .lst0, .lst0, .lst0]], S ++ [.cells [.int .i64 3, .lst0], .cells (encS (.mk 3 [])).cells, .cells (encV vK).cells]] mo (by decide) V V V V ?_
 refine zV V V (.cons (zL0 V V V ta24 V Vv) (.cons (zL0 V V V ta24 V Vv) (.nil))) <| zV V V (.cons (zL0 V V V ta24 V Vv) (.cons (zL0 V V V ta24 V Vv) (.nil))) <| zV V V (.cons (zI1 V zA0 el9 V V (by decide) (by decide) V V Vv) (.cons (zI1 V zA0 el9 V V (by decide) (by decide) V V Vv) (.nil))) ?_
 refine zV V V (.cons (zA2 V zU1 zm30 (.cons zT1 sz26 V V (zB V) .nil) (by kernel_rfl) Vv) (.cons (zA2 V zU1 zm30 (.cons zT1 sz26 V V (zB V) .nil) (by kernel_rfl) Vv) (.nil))) ?_
 refine zV V V (.cons (zX0 V V V co6 ((bytes_spec (.mk 3 []) vK (flatB 3 vK) vK_ok vK_yes (by rw [vK_B]; simp) (by rw [vK_B]; simp) (fun id t => flat_writes 3 [] (.inr (.inr V)) 0 0 [[97], [98]] [] [] (by decide) (by decide) (by decide) id t) _).sub (.cons (.agg (.cons (.refl _) (.cons (.nil 2) .nil))) (.cons (.agg (.cons (.refl _) (.cons (.refl _) (.cons (.refl _) (.cons (.nil 1) (.cons (.nil 5) .nil)))))) .nil)))) (.cons (zX0 V V V co6 ((bytes_spec (.mk 3 []) vK (flatB 3 vK) vK_ok vK_yes (by rw [vK_B]; simp) (by rw [vK_B]; simp) (fun id t => flat_writes 3 [] (.inr (.inr V)) 0 0 [[97], [98]] [] [] (by decide) (by decide) (by decide) id t) _).sub (.cons (.agg (.cons (.refl _) (.cons (.nil 2) .nil))) (.cons (.agg (.cons (.refl _) (.cons (.refl _) (.cons (.refl _) (.cons (.nil 1) (.cons (.nil 5) .nil)))))) .nil)))) (.nil))) ?_
 rw [vK_B]
 refine zV V V (.cons (zD5 V V V (by decide) Vv) (.cons (zD5 V V V (by decide) Vv) (.nil))) ?_
 refine zV V V (.cons (zX0 V V V co8 ((read_good 3 [] isF3 (fun id => flat_reads 3 [] (.inr (.inr V)) id) ([2, 1, 97, 1, 98] ++ [121]) [121] (by decide) 0 0 [[97], [98]] [] [] hmK vK_ok vK_yes _).sub (.cons (.agg (.cons (.refl _) (.cons (.nil 2) .nil))) (.cons (.refl _) .nil)))) (.cons (zX0 V V V co8 ((read_good 3 [] isF3 (fun id => flat_reads 3 [] (.inr (.inr V)) id) ([2, 1, 97, 1, 98] ++ [121]) [121] (by decide) 0 0 [[97], [98]] [] [] hmK vK_ok vK_yes _).sub (.cons (.agg (.cons (.refl _) (.cons (.nil 2) .nil))) (.cons (.refl _) .nil)))) (.nil))) ?_
 refine zV V V (.cons (zY V V Vv) (.cons (zY V V Vv) (.nil))) <| zV V V (.cons (zN0 V V V Vv) (.cons (zN0 V V V Vv) (.nil))) <| zV V V (.cons (zN0 V V V Vv) (.cons (zN0 V V V Vv) (.cons (zN0 V V V Vv) (.nil)))) <| zV V V (.cons (zN0 V V V Vv) (.cons (zN0 V V V Vv) (.cons (zN0 V V V Vv) (.nil)))) <| zG1 V V V V (zH0 V zm30 V V Vv) <| zG1 V V V V (zT0 V V V V sz30 V V (zB V) V Vv) <| dO V V V (zC1 V V Vv) <| dO V V V (zC1 V V Vv) <| zO0 <| zA <| qR V <| qL V V V V ta24 V ?_
 refine qX V V V V co8 ((read_bad 3 [] isF3 (fun id => flat_reads 3 [] (.inr (.inr V)) id) [2, 1, 98, 1, 97] [] (by decide) 0 0 [[98], [97]] [] [] hmK2 vK2_ok vK2_no _).sub (.cons (.agg (.cons (.refl _) (.cons (.nil 2) .nil))) (.cons (.refl _) .nil))) ?_
 refine qM V V V <| qO V <| zN0 V V V <| qO V <| zN0 V V V <| qO V <| zN0 V V V <| qO V <| zH0 V zm30 V V <| qO V <| zT0 V V V V sz30 V V (zB V) V <| qA V V V <| qA V V V <| qN <| zA <| qR V ?_
 refine qX V V V V co9 (readS_short [] (by decide) hn0 _) ?_
 refine qM V V V <| qO V <| zN0 V V V <| qO V <| zN0 V V V <| qO V <| zN0 V V V <| qO V <| zH0 V zm24 V V <| qO V <| zT0 V V V V sz24 V V (zB V) V <| qA V V V <| qA V V V <| qN <| zA <| qR V <| qM V V V <| qO V <| zC4 V zG0 V V (.inl Vv) <| qM V V V <| qM V V V <| qO V <| zZ2 V V V V <| qP V V V V ?_
 refine qM V V V <| qL V V V V ta24 V <| qL V V V V ta24 V ?_
 refine qX V V V V co11 ((same3 _).sub (.cons (.refl _) (.cons (.agg (.cons (.refl _) (.cons (.nil 2) .nil))) .nil))) ?_
 refine qP V V V V <| qM V V V <| qM V V V <| qO V <| zC4 V zG0 V V (.inl Vv) <| qP V V V V <| qM V V V <| qM V V V <| qO V <| zZ2 V V V V <| qP V V V V <| qM V V V <| qF V V V zT1 <| qL V V V V ta26 V <| qE V V zA0 V <| qC V V V V V <| qP V V V V ?_
 refine qM V V V <| qM V V V <| qO V <| zM2 V V zI2 (by simp) ?_
 refine qX V V V V co12 (zY4 10 _) ?_
 refine qP V V V V <| qM V V V <| qM V V V <| qO V <| zM2 V V zI2 (by simp) ?_
 refine qX V V V V co12 (zY4 11 _) ?_
 refine qP V V V V <| qM V V V ?_
 refine qX V V V V co13 (codeNum_spec 128 (by decide) (by rw [numB128]; decide) _) ?_
 rw [numB128]
 refine qO V <| zZ2 V V V V <| qP V V V V <| qM V V V ?_
 refine qX V V V V co14 (codeText_spec [97] (by decide) _) ?_
 rw [textB_a]
 refine qO V <| zZ2 V V V V <| qP V V V V <| qM V V V ?_
 refine qX V V V V co15 (codeHash_spec [] (by decide) _) ?_
 refine qC V V V V V <| qP V V V V <| qA V V V <| qN <| zG ?_
 exact zK (.inr V) Tryz.results4 V (.of_eq (V)) (.bool _) Vv
theorem same_self (d : Nat) : ∀ s, isF d s = true → ∀ S : MS, MCalls Tryz.prog 11 [encS s, encS s] S fun v σ' => v = .bool true ∧ σ' = S := by
 induction d with
 | zero => intro s h; simp [isF] at h
 | succ d ih =>
 rintro ⟨k, ins⟩ hd S
 rw [isF] at hd
 simp only [Bool.and_eq_true, List.all_eq_true, beq_iff_eq] at hd
 have hlen' : ins.length ≤ maxLen := by
  obtain ⟨q, _, _, _, hm⟩ := k8_nat hd.1
  simp only [maxLen]
  omega
 refine zN Tryz.func11 V Tryz.ntmps11 (zB V) ?_
 refine zA <| qR V <| qB V V V V V <| qB V V V V V <| qA V V V <| qN <| zA <| zA <| qR V <| qF V V V zM1 <| qL V V V V ta3 V <| qF V V V zM1 <| qL V V V V ta3 V <| qO V <| op_viewTo (y := .bool false) (zX2 V V V V Vv) (.of_eq (congrArg MV.bool (by simp))) ?_
 refine qM V V V <| qF V V V zC2 <| qL V V V V ta22 V <| qE V V zD0 V <| qF V V V zC2 <| qL V V V V ta22 V <| qE V V zD0 V <| qO V <| op_viewTo (y := .bool false) (zX2 V V V V Vv) (.of_eq (congrArg MV.bool (by simp))) ?_
 refine qP V V V V <| qN <| zJ V (V) <| zQ <| zA <| zA <| qR V <| qA V V V <| qN <| zW ?_
 refine zD1 (α := Nat) [(2, _), (3, _)] (fun i => [(5, .int .i64 (i : Int))]) (fun i => [.cells (encS (.mk k ins)).cells, .cells (encS (.mk k ins)).cells]) (fun i => i ≤ ins.length) (fun i => ins.length - i) (0) (.keep V (.keep V (.nil))) (.keep V (.nil)) (by omega) (V) ?_
 rintro i hi
 refine zA <| zA <| qR V <| qM V V V <| qF V V V zC2 <| qL V V V V ta22 V <| qE V V zD0 V <| qC V V V V V <| qN ?_
 refine zE V (fun h24 => ?_) (fun h24 => ?_)
 ·
  rw [zF2] at h24
  have hlt : i < ins.length := by simpa using h24
  obtain ⟨⟨k1, i1⟩, hs⟩ : ∃ q_, ins[i]? = some q_ := ⟨_, zD hlt⟩
  refine zQ <| zA <| zW <| zA ?_
  refine zV0 [] [_] mo (by decide) V V V V ?_
  refine dO V V V (zL V V zC2 Vv) <| dO V V V (zL0 V V V ta22 V Vv) <| dO V V V (zY V V Vv) <| dO V V V (zO V zD0 sz24 (by decide) V V V (encSs_get hs) Vv) ?_
  refine dO V V V (zP V V ta24 V Vv) <| dO V V V (zL V V zC2 Vv) <| dO V V V (zL0 V V V ta22 V Vv) <| dO V V V (zY V V Vv) <| dO V V V (zO V zD0 sz24 (by decide) V V V (encSs_get hs) Vv) ?_
  refine dO V V V (zP V V ta24 V Vv) <| zV V V (.cons (zX0 V V V co11 (ih (.mk k1 i1) (hd.2 _ (zU hs)) _)) .nil) <| dO V V V (zL1 V V Vv) <| zO0 <| zJ V (V) <| zQ <| qR V <| qM V V V <| qO V <| zU0 V V V V <| qA V V V <| qN ?_
  refine ⟨i + 1, by omega, by omega, rfl, (.keep V (.keep V (.nil))), (.eq V (zH1 hlt hlen') (.nil))⟩
 ·
  rw [zF2] at h24
  have hge : i = ins.length := by simp at h24; omega
  refine zA1 <| zA <| qR V <| qA V V V <| qN <| zG ?_
  exact zK (.inr V) Tryz.results11 V (.of_eq (V)) (.bool _) Vv
theorem readS_of (b rest : Bs) (k : Int) (ins : List Sch) (hR : SchR 16 b rest (.mk k ins)) (hlen : b.length ≤ 8000000) (S : MS) : MCalls Tryz.prog 9 [.str (bs b)] S fun v σ' => v = .tup [encS (.mk k ins), .str (bs rest), .iface0] ∧ σ' = S := by
 refine zN Tryz.func9 V Tryz.ntmps9 (zB V) ?_
 refine zS0 fun _ hcl => ?_
 rw [List.append_nil] at hcl
 refine zA <| qR V <| qO V <| zH0 V zm24 V V <| qA V V V <| qA V V V <| qN <| zA <| qR V <| qM V V V <| qO V <| zA2 V zM3 zm62 (.cons zP3 sz9 V V (zB V) .nil) (by kernel_rfl) ?_
 refine qB V V V V V <| qA V V V <| qN <| zA <| qR V ?_
 have hst : (S ++ [MObj.cells [.int .i64 0, .lst0], rdO (b, none)]).set (S.length + 1) (rdO (rest, none)) = S ++ [MObj.cells [.int .i64 0, .lst0], rdO (rest, none)] := by rw [zY3]; rfl
 refine qM V V V ?_
 refine qX V V V V co25 ((hR (S.length + 1) (S ++ [MObj.cells [.int .i64 0, .lst0], rdO (b, none)]) (by rw [getElem?_own]; rfl) hlen)) ?_
 rw [hst]
 refine qO V <| zH0 V zm24 V V <| qO V <| zT0 V V V V sz24 V V (zB V) V <| qN <| zA <| zA <| qR V <| qM V V V <| qO V <| zE0 V V V <| qF V V V zH2 <| qL V V V V ta37 V <| qO V <| zC4 V zG0 V V (.inr Vv) <| qN <| zJ V (V) <| zQ <| zA ?_
 refine zV0 [5] [_, S ++ [.cells (encS (.mk k ins)).cells, rdO (rest, none), .cells (encS (.mk k ins)).cells]] mo (by decide) V V V V ?_
 refine dO V V V (zL0 V V V ta24 V Vv) <| zV V V (.cons (zY V V Vv) (.cons (zY V V Vv) (.nil))) <| zV V V (.cons (zE0 V V V Vv) (.cons (zE0 V V V Vv) (.nil))) <| zV V V (.cons (zL V V zP3 Vv) (.cons (zL V V zP3 Vv) (.nil))) <| zV V V (.cons (zL0 V V V ta9 V Vv) (.cons (zL0 V V V ta9 V Vv) (.nil))) <| zG1 V V V V (zT0 V V V V sz24 V V (zB V) V Vv) <| dO V V V (zC1 V V Vv) <| dO V V V (zC1 V V Vv) <| zO0 <| zG ?_
 exact ret_ctt (y := encS (.mk k ins)) (y2 := .str (bs rest)) (y3 := .iface0) (.inr V) Tryz.results9 V V ta24 V (.refl _) (cl_encS _ _) V (.refl _) (.str _) V (.refl _) .iface0 Vv
end Go.Proofs.YtplclefbiimnbaaGreat
namespace Go.MV
open Go Go.RowKit
section
section
variable {P : Program} {rd : Option Nat} {N n : Nat} {Q : Exit → Env → MS → Prop} {env : Env} {σ : MS}
theorem mwp_joinA {α : Type} {c rest : Code} (E : α → Env) (σ3 : α → MS) (φ : α → Prop) (h1 : mwp P rd N n c (fun e env1 σ1 => (∃ z, e = .normal ∧ σ1 = σ3 z ∧ EnvSub env1 (E z) ∧ φ z) ∨ (e ≠ .normal ∧ Q e env1 σ1)) env σ) (h2 : ∀ z, φ z → mwp P rd N n rest Q (E z) (σ3 z)) : mwp P rd N n (.seq c rest) Q env σ := by
 refine zA (mwp_mono h1 ?_)
 rintro e env1 σ1 (⟨z, rfl, rfl, hs, hφ⟩ | ⟨hne, hq⟩)
 ·exact mwp_env hs.get_ (h2 z hφ)
 ·cases e with
  | normal => exact absurd rfl hne
  | _ => exact hq
end
end
end Go.MV
namespace Go.Proofs.YtplclefbiimnbaaGreat
open Go Go.MV Go.RowKit
def KindQ (K : Int) (r1 : RdS) (z : Nat × RdS) : Prop := ((K = 1 ∨ K = 2 ∨ K = 3 ∨ K = 6 ∨ K = 7) ∧ z = (0, r1)) ∨ ((K = 4 ∨ K = 8) ∧ z = (1, r1)) ∨ (K = 5 ∧ z = (2, r1)) ∨ (¬ (K = 1 ∨ K = 2 ∨ K = 3 ∨ K = 6 ∨ K = 7) ∧ ¬ (K = 4 ∨ K = 8) ∧ ¬ K = 5 ∧ z = (0, failR 10 r1))
theorem schM_eq {d : Nat} {r : RdS} {K : Int} (hK : K = ((min (numM r).1 65536 : Nat) : Int)) {z : Nat × RdS} (h : KindQ K (numM r).2 z) : schM (d + 1) r = (.mk K (schGo (schM d) z.1 [] z.2).1, (schGo (schM d) z.1 [] z.2).2) ∧ z.1 ≤ 2 ∧ z.2.1 = (numM r).2.1 := by
 rw [schM, ← hK]
 rcases h with ⟨hk, rfl⟩ | ⟨hk, rfl⟩ | ⟨hk, rfl⟩ | ⟨h1, h2, h3, rfl⟩
 ·have e : partsF K = 0 := by unfold partsF; exact if_pos hk
  rw [e]
  exact ⟨rfl, by dsimp only; omega, rfl⟩
 ·have e : partsF K = 1 := by unfold partsF; rw [if_neg (by omega), if_pos hk]
  rw [e]
  exact ⟨rfl, by dsimp only; omega, rfl⟩
 ·have e : partsF K = 2 := by unfold partsF; rw [if_neg (by omega), if_neg (by omega), if_pos hk]
  rw [e]
  exact ⟨rfl, by dsimp only; omega, rfl⟩
 ·have e : partsF K = -1 := by unfold partsF; rw [if_neg h1, if_neg h2, if_neg h3]
  rw [e]
  exact ⟨rfl, by dsimp only; omega, rfl⟩
theorem fail_fail (a b : Int) (r : RdS) : failR a (failR b r) = failR b r := by
 obtain ⟨x, e⟩ := r
 cases e <;> rfl
theorem num_fail (a : Int) (r : RdS) : numM (failR a r) = (0, failR a r) := by
 obtain ⟨x, e⟩ := r
 cases e <;> rfl
theorem schM_zero (id : Nat) (r : RdS) (S : MS) (h : S[id]? = some (rdO r)) (hlen : r.1.length ≤ 8000000) : MCalls Tryz.prog 25 [.ref id 0, .int .i64 0] S fun v σ' => v = encS (schM 0 r).1 ∧ σ' = S.set id (rdO (schM 0 r).2) := by
 refine zN Tryz.func25 V Tryz.ntmps25 (zB V) ?_
 refine zS0 fun _ hcl => ?_
 rw [List.append_nil] at hcl
 have hg : (S.set id (rdO (failR 13 r)))[id]? = some (rdO (failR 13 r)) := zE3 h
 refine zA <| qR V <| qO V <| zH0 V zm24 V V <| qN <| zA <| zA <| qR V <| qM V V V <| qC V V V V V <| qN <| zX V (V) <| qR V <| qM V V V ?_
 refine qX V V V V co24 (zK2 id r S [.cells [.int .i64 0, .lst0]] h _) ?_
 refine qN <| zA <| qR V <| qM V V V ?_
 refine qX V V V V co42 (((zU2 id).sl hg (by rw [fail_len]; exact hlen)).mono fun v σ' hv => (show v = .int .u64 0 ∧ σ' = S.set id (rdO (failR 13 r)) ++ [.cells [.int .i64 0, .lst0]] from by rw [num_fail] at hv; exact ⟨hv.1, hv.2.trans (by rw [zI3])⟩)) ?_
 refine qO V <| op_min2 V V V <| qO V <| zR1 V zB1 zZ0 V V <| qO V <| zA2 V zJ2 zm24 (.cons zM1 sz3 V V (zB V) .nil) (by kernel_rfl) ?_
 refine qO V <| zH0 V zm24 V V <| qO V <| zY0 (by simp) V V V V sz24 V V (zB V) V ?_
 refine qN <| zA <| qR V <| qA V V V <| qN <| zA <| zA <| qR V <| qF V V V zM1 <| qO V <| zF0 (by simp) V V V ta3 V ?_
 refine qN <| zW <| zA <| zA <| qR V <| qC V V V V V <| qA V V V <| qN <| zJ V (V) <| zA <| qR V <| qC V V V V V <| qA V V V <| qN <| zJ V (V) <| zA <| qR V <| qC V V V V V <| qA V V V <| qN <| zJ V (V) <| zA <| qR V <| qC V V V V V ?_
 refine qA V V V <| qN <| zJ V (V) <| qR V <| qC V V V V V <| qA V V V <| qN <| zJ V (V) <| zA <| zA <| qR V <| qC V V V V V <| qA V V V <| qN <| zJ V (V) <| qR V <| qC V V V V V <| qA V V V <| qN <| zJ V (V) <| zA <| qR V <| qC V V V V V ?_
 refine qA V V V <| qN <| zJ V (V) <| qR V <| qM V V V ?_
 refine qX V V V V co24 ((zK2 id (failR 13 r) (S.set id (rdO (failR 13 r))) [.cells [.int .i64 0, .lst0], .cells [.int .i64 0, .lst0]] hg _).mono fun v σ' hv => (show v = .tup [] ∧ σ' = S.set id (rdO (failR 13 r)) ++ [.cells [.int .i64 0, .lst0], .cells [.int .i64 0, .lst0]] from ⟨hv.1, hv.2.trans (by rw [zI3, fail_fail])⟩)) ?_
 refine qN <| zA <| zA <| qR V <| qM V V V <| qM V V V <| qN <| zW ?_
 refine zD1 (α := Nat) [(0, _), (1, _), (4, _), (5, _), (31, _)] (fun i => [(32, .int .i64 0)]) (fun i => [.cells [.int .i64 0, .lst0], .cells [.int .i64 0, .lst0]]) (fun i => True) (fun i => 0) (0) (.keep V (.keep V (.keep V (.keep V (.keep V (.nil)))))) (.keep V (.nil)) (trivial) (V) ?_
 rintro i _
 refine zA <| qR V <| qC V V V V V <| qN <| zA <| zJ V (V) <| zA1 <| zA <| qR V <| qO V <| zF0 (by simp) V V V ta24 V ?_
 refine qO V <| zY0 (by simp) V V V V sz24 V V (zB V) V ?_
 refine qN <| zG ?_
 exact zB2 (y := encS (.mk 0 [])) (by simp) (.inr V) Tryz.results25 V V ta24 V (.agg (.cons (.refl _) (.cons (.nil 2) .nil))) (cl_encS _ _) (hcl.set (zG3 _ _)) Vv
theorem schM_deep (d : Nat) (hd : d ≤ 100) (ih : ∀ (id : Nat) (r : RdS) (S : MS), S[id]? = some (rdO r) → r.1.length ≤ 8000000 → MCalls Tryz.prog 25 [.ref id 0, .int .i64 (d : Int)] S fun v σ' => v = encS (schM d r).1 ∧ σ' = S.set id (rdO (schM d r).2)) (id : Nat) (r : RdS) (S : MS) (h : S[id]? = some (rdO r)) (hlen : r.1.length ≤ 8000000) : MCalls Tryz.prog 25 [.ref id 0, .int .i64 ((d + 1 : Nat) : Int)] S fun v σ' => v = encS (schM (d + 1) r).1 ∧ σ' = S.set id (rdO (schM (d + 1) r).2) := by
 refine zN Tryz.func25 V Tryz.ntmps25 (zB V) ?_
 refine zS0 fun _ hcl => ?_
 rw [List.append_nil] at hcl
 obtain ⟨K, hK⟩ : ∃ K : Int, K = ((min (numM r).1 65536 : Nat) : Int) := ⟨_, rfl⟩
 refine zA <| qR V <| qO V <| zH0 V zm24 V V <| qN <| zA <| zA <| qR V <| qM V V V <| qC V V V V V <| qN <| zJ V (decide_eq_false (by omega)) ?_
 refine zQ <| zA <| qR V <| qM V V V ?_
 refine qX V V V V co42 ((zU2 id).sl h hlen) ?_
 refine qO V <| op_min2' V V V (show (if (65536 : Int) < (((numM r).1 : Nat) : Int) then (65536 : Int) else (((numM r).1 : Nat) : Int)) = K by rw [hK]; split <;> omega) ?_
 refine qO V <| zR1 V zB1 zZ0 V (zF3 (by omega)) ?_
 refine qO V <| zA2 V zJ2 zm24 (.cons zM1 sz3 V V (zB V) .nil) (by kernel_rfl) ?_
 refine qO V <| zH0 V zm24 V V <| qO V <| zY0 (by simp) V V V V sz24 V V (zB V) V ?_
 refine qN <| zA <| qR V <| qA V V V <| qN ?_
 refine mwp_joinA (α := Nat × RdS) (fun z => [(0, .ref id 0), (1, .int .i64 ((d + 1 : Nat) : Int)), (4, .ref (S.length + 0) 0), (5, .ref ((S.set id (rdO (numM r).2)).length + 1) 0), (6, .int .i64 (z.1 : Int))]) (fun z => S.set id (rdO z.2) ++ [.cells [.int .i64 0, .lst0], .cells [.int .i64 K, .lst0]]) (fun z => KindQ K (numM r).2 z) ?_ ?_
 ·
  refine zA <| qR V <| qF V V V zM1 <| qO V <| zF0 (by simp) V V V ta3 V ?_
  refine qN <| zW <| zA <| zA <| qR V <| qC V V V V V <| qA V V V <| qN ?_
  refine zE V (fun h20 => ?_) (fun h20 => ?_)
  ·
   have hq := eq_of_beq h20
   refine zQ <| zX V h20 <| zQ ?_
   exact .inl ⟨(0, (numM r).2), rfl, rfl, (.keep rfl (.keep rfl (.keep rfl (.keep rfl (.keep rfl .nil))))), .inl ⟨by omega, rfl⟩⟩
  ·
   have hq := ne_of_beq_false h20
   refine zA <| qR V <| qC V V V V V <| qA V V V <| qN ?_
   refine zE V (fun h20 => ?_) (fun h20 => ?_)
   ·
    have hq := eq_of_beq h20
    refine zQ <| zX V h20 <| zQ ?_
    exact .inl ⟨(0, (numM r).2), rfl, rfl, (.keep rfl (.keep rfl (.keep rfl (.keep rfl (.keep rfl .nil))))), .inl ⟨by omega, rfl⟩⟩
   ·
    have hq := ne_of_beq_false h20
    refine zA <| qR V <| qC V V V V V <| qA V V V <| qN ?_
    refine zE V (fun h20 => ?_) (fun h20 => ?_)
    ·
     have hq := eq_of_beq h20
     refine zQ <| zX V h20 <| zQ ?_
     exact .inl ⟨(0, (numM r).2), rfl, rfl, (.keep rfl (.keep rfl (.keep rfl (.keep rfl (.keep rfl .nil))))), .inl ⟨by omega, rfl⟩⟩
    ·
     have hq := ne_of_beq_false h20
     refine zA <| qR V <| qC V V V V V <| qA V V V <| qN ?_
     refine zE V (fun h20 => ?_) (fun h20 => ?_)
     ·
      have hq := eq_of_beq h20
      refine zQ <| zX V h20 <| zQ ?_
      exact .inl ⟨(0, (numM r).2), rfl, rfl, (.keep rfl (.keep rfl (.keep rfl (.keep rfl (.keep rfl .nil))))), .inl ⟨by omega, rfl⟩⟩
     ·
      have hq := ne_of_beq_false h20
      refine qR V <| qC V V V V V <| qA V V V <| qN ?_
      refine zE V (fun h20 => ?_) (fun h20 => ?_)
      ·
       have hq := eq_of_beq h20
       refine zQ ?_
       exact .inl ⟨(0, (numM r).2), rfl, rfl, (.keep rfl (.keep rfl (.keep rfl (.keep rfl (.keep rfl .nil))))), .inl ⟨by omega, rfl⟩⟩
      ·
       have hq := ne_of_beq_false h20
       refine zA <| zA <| qR V <| qC V V V V V <| qA V V V <| qN ?_
       refine zE V (fun h26 => ?_) (fun h26 => ?_)
       ·
        have hq := eq_of_beq h26
        refine zQ <| zX V h26 <| qR V <| qA V V V <| qN ?_
        exact .inl ⟨(1, (numM r).2), rfl, rfl, (.keep rfl (.keep rfl (.keep rfl (.keep rfl (.keep rfl .nil))))), .inr (.inl ⟨by omega, rfl⟩)⟩
       ·
        have hq := ne_of_beq_false h26
        refine qR V <| qC V V V V V <| qA V V V <| qN ?_
        refine zE V (fun h26 => ?_) (fun h26 => ?_)
        ·
         have hq := eq_of_beq h26
         refine qR V <| qA V V V <| qN ?_
         exact .inl ⟨(1, (numM r).2), rfl, rfl, (.keep rfl (.keep rfl (.keep rfl (.keep rfl (.keep rfl .nil))))), .inr (.inl ⟨by omega, rfl⟩)⟩
        ·
         have hq := ne_of_beq_false h26
         refine zA <| qR V <| qC V V V V V <| qA V V V <| qN ?_
         refine zE V (fun h29 => ?_) (fun h29 => ?_)
         ·
          have hq := eq_of_beq h29
          refine qR V <| qA V V V <| qN ?_
          exact .inl ⟨(2, (numM r).2), rfl, rfl, (.keep rfl (.keep rfl (.keep rfl (.keep rfl (.keep rfl .nil))))), .inr (.inr (.inl ⟨by omega, rfl⟩))⟩
         ·
          have hq := ne_of_beq_false h29
          refine qR V <| qM V V V ?_
          refine qX V V V V co24 ((zK2 id (numM r).2 (S.set id (rdO (numM r).2)) [.cells [.int .i64 0, .lst0], .cells [.int .i64 K, .lst0]] (zE3 h) _).mono fun v σ' hv => (show v = .tup [] ∧ σ' = S.set id (rdO (failR 10 (numM r).2)) ++ [.cells [.int .i64 0, .lst0], .cells [.int .i64 K, .lst0]] from ⟨hv.1, hv.2.trans (by rw [zI3])⟩)) ?_
          refine qN ?_
          exact .inl ⟨(0, failR 10 (numM r).2), rfl, rfl, (.keep rfl (.keep rfl (.keep rfl (.keep rfl (.keep rfl .nil))))), .inr (.inr (.inr ⟨by omega, by omega, by omega, rfl⟩))⟩
 ·
  rintro ⟨m, r2⟩ hq
  obtain ⟨he, hm2, hrl⟩ := schM_eq (d := d) hK hq
  dsimp only at he hm2 hrl
  have hn := zV2 r
  rw [← hrl] at hn
  refine zA <| zA <| qR V <| qM V V V <| qM V V V <| qN <| zW <| mwp_cellrowAt 1 1 24 2 V V (by simp) V V ?_
  rw [show (S.set id (rdO r2)).length = S.length by simp, show (S.set id (rdO (numM r).2)).length = S.length by simp]
  show mwp _ _ _ _ _ _ _ (([] : MS) ++ (S.set id (rdO r2) ++ [.cells [.int .i64 0, .lst0], .cells [.int .i64 K, .lst (some (S.length + 2)) 2 []], .row 24 2 0]))
  refine zD1 (α := Nat × List Sch × RdS) [(0, _), (1, _), (4, _), (5, _), (31, _)] (fun x => [(32, .int .i64 (x.1 : Int))]) (fun x => (S.set id (rdO x.2.2) ++ [.cells [.int .i64 0, .lst0], .cells [.int .i64 K, .lst (some (S.length + 2)) 2 (x.2.1.map encS)], .row 24 2 x.2.1.length])) (fun x => x.1 ≤ m ∧ schGo (schM d) (m - x.1) x.2.1 x.2.2 = schGo (schM d) m [] r2 ∧ x.2.1.length ≤ x.1 ∧ x.2.2.1.length ≤ 8000000) (fun x => m - x.1) (⟨0, [], r2⟩) (.keep V (.keep V (.keep V (.keep V (.keep V (.nil)))))) (.keep V (.nil)) (⟨Nat.zero_le _, rfl, Nat.le_refl _, by dsimp only; omega⟩) (V) ?_
  rintro ⟨i, acc, rc⟩ ⟨hi, hgo, hal, hrc⟩
  dsimp only at hi hgo hal hrc
  show mwp _ _ _ _ _ _ _ (S.set id (rdO rc) ++ [.cells [.int .i64 0, .lst0], .cells [.int .i64 K, .lst (some (S.length + 2)) 2 (acc.map encS)], .row 24 2 acc.length])
  refine zA <| qR V <| qC V V V V V <| qN <| zA ?_
  refine zE V (fun h33 => ?_) (fun h33 => ?_)
  ·
   have hlt : i < m := by simp at h33; omega
   refine zQ <| zA <| zW <| zA ?_
   obtain ⟨b, e⟩ := rc
   rcases e with _ | e
   ·
    have hstep : schGo (schM d) (m - (i + 1)) (acc ++ [(schM d (b, none)).1]) (schM d (b, none)).2 = schGo (schM d) m [] r2 := by
     rw [← hgo, show m - i = (m - (i + 1)) + 1 by omega, schGo]
     exact (if_neg (by simp)).symm
    have hg : (S.set id (rdO (b, none)))[id]? = some (.cells [.str (bs b), .iface0]) := zE3 h
    refine qR V <| qM V V V <| qO V <| zE0 V V V <| qF V V V zH2 <| qO V <| zQ1 V V hg ta37 V <| qO V <| zC4 V zG0 V V (.inl Vv) <| qN <| zX V (V) ?_
    have hih := fun L => ((ih id (b, none) (S.set id (rdO (b, none)) ++ L) (zO3 (zE3 h)) hrc).mono (R' := fun v σ' => v = encS (schM d (b, none)).1 ∧ σ' = S.set id (rdO (schM d (b, none)).2) ++ L) fun v σ' hv => ⟨hv.1, hv.2.trans (by rw [set_sl (zE3 h), zI3])⟩)
    obtain ⟨⟨k1, i1⟩, hs1⟩ : ∃ s, s = (schM d (b, none)).1 := ⟨_, rfl⟩
    rw [← hs1] at hih
    refine zV0 [5, 7, 9] [_, S.set id (rdO (schM d (b, none)).2) ++ [.cells [.int .i64 0, .lst0], .cells [.int .i64 K, .lst (some (S.length + 2)) 2 (acc.map encS)], .row 24 2 acc.length], S.set id (rdO (schM d (b, none)).2) ++ [.cells [.int .i64 0, .lst0], .cells [.int .i64 K, .lst (some (S.length + 2)) 2 (acc.map encS)], .row 24 2 (acc.length + 1)], S.set id (rdO (schM d (b, none)).2) ++ [.cells [.int .i64 0, .lst0], .cells [.int .i64 K, .lst (some (S.length + 2)) 2 (acc.map encS ++ [encS (.mk k1 i1)])], .row 24 2 (acc.length + 1)]] mo (by decide) V V V V ?_
    refine zV V V (.cons (zL V V zC2 Vv) (.cons (zL V V zC2 Vv) (.cons (zL V V zC2 Vv) (.nil)))) <| zV V V (.cons (zF0 (by simp) V V V ta22 V Vv) (.cons (zF0 (by simp) V V V ta22 V Vv) (.nil))) ?_
    refine dO V V V (zY V V Vv) <| zV V V (.cons (zY V V Vv) (.cons (zY V V Vv) (.cons (zY V V Vv) (.nil)))) <| dO V V V (zU0 V V V (show some (IntKind.i64.wrap (((d + 1 : Nat) : Int) - 1)) = some (d : Int) by rw [zF3 (by omega)]; congr 1; omega) Vv) ?_
    refine zG1 V V V V (zX0 V V V co25 (hih [.cells [.int .i64 0, .lst0], .cells [.int .i64 K, .lst (some (S.length + 2)) 2 (acc.map encS)], .row 24 2 acc.length])) <| dO V V V (zI1 V zD0 el24 V V (by decide) (by decide) V V Vv) ?_
    refine zG1 V V V V (zR4 V zD0 el24 V V ((own_getS (by simp)).trans V) (by simp) (by simp; omega) (by simp; omega) ⟨rfl, (own_setS (by simp)).trans rfl⟩) ?_
    refine dO V V V (zL V V zC2 Vv) <| zG1 V V V V (zY0 (by simp) V V V V sz22 V V (zB V) V Vv) ?_
    refine zO0 <| qR V <| qO V <| zU0 V V V V <| qM V V V <| qN ?_
    refine ⟨⟨i + 1, acc ++ [(schM d (b, none)).1], (schM d (b, none)).2⟩, by dsimp only; omega, ⟨by dsimp only; omega, hstep, by simp only [zF, zC0, List.length_nil]; omega, by have := schM_len d (b, none); have hb8 : b.length ≤ 8000000 := hrc; dsimp only at this ⊢; omega⟩, by rw [List.map_append, zF, ← hs1]; rfl, (.keep V (.keep V (.keep V (.keep V (.keep V (.nil)))))), (.eq V (zH1 hlt (by simp only [maxLen]; omega)) (.nil))⟩
   ·
    have hstep : schGo (schM d) (m - (i + 1)) acc (b, some e) = schGo (schM d) m [] r2 := by
     rw [← hgo, show m - i = (m - (i + 1)) + 1 by omega, schGo_err, schGo_err]
    have hg : (S.set id (rdO (b, some e)))[id]? = some (.cells [.str (bs b), .iface 45 (.int .i64 e)]) := zE3 h
    refine qR V <| qM V V V <| qO V <| zE0 V V V <| qF V V V zH2 <| qO V <| zQ1 V V hg ta37 V <| qO V <| zY2 V zG0 V V (.inl Vv) <| qN <| zJ V (V) <| zQ <| qR V <| qO V <| zU0 V V V V <| qM V V V <| qN ?_
    refine ⟨⟨i + 1, acc, (b, some e)⟩, by dsimp only; omega, ⟨by dsimp only; omega, hstep, by dsimp only; omega, hrc⟩, rfl, (.keep V (.keep V (.keep V (.keep V (.keep V (.nil)))))), (.eq V (zH1 hlt (by simp only [maxLen]; omega)) (.nil))⟩
  ·
   have hge : i = m := by simp at h33; omega
   subst hge
   rw [Nat.sub_self] at hgo
   replace he : schM (d + 1) r = (.mk K acc, rc) := by rw [he, ← hgo]; rfl
   refine zA1 <| zA <| qR V <| qO V <| zF0 (by simp) V V V ta24 V ?_
   refine qO V <| zY0 (by simp) V V V V sz24 V V (zB V) V ?_
   refine qN <| zG ?_
   exact zB2 (y := encS (.mk K acc)) (by simp) (.inr V) Tryz.results25 V V ta24 V (.agg (.cons (.refl _) (.cons (.trans (.view _ _ _) (.of_eq (by rw [encSs_eq]))) .nil))) (cl_encS _ _) (hcl.set (zG3 _ _)) ⟨by rw [he], by rw [he]⟩
theorem schM_reads : ∀ (d : Nat), d ≤ 100 → ∀ (id : Nat) (r : RdS) (S : MS), S[id]? = some (rdO r) → r.1.length ≤ 8000000 → MCalls Tryz.prog 25 [.ref id 0, .int .i64 (d : Int)] S fun v σ' => v = encS (schM d r).1 ∧ σ' = S.set id (rdO (schM d r).2)
 | 0, _ => schM_zero
 | d + 1, hd => schM_deep d (by omega) (schM_reads d (by omega))
end Go.Proofs.YtplclefbiimnbaaGreat
