/-
  Walks of package schema (layer 2), first part: how many parts a kind has, all of a row, whether a schema is one.
-/
import Derived.Test.YtihpnfpdocnniaaFacts
import Derived.Test.YtihpnfpdocnniaaEnd
set_option linter.unusedVariables false
set_option linter.unusedSimpArgs false
namespace Go.Proofs.Ytihpnfpdocnniaa
open Go Go.MV

def partsF (k : Int) : Int := if k = 1 ∨ k = 2 ∨ k = 3 ∨ k = 6 ∨ k = 7 then 0 else if k = 4 ∨ k = 8 then 1 else if k = 5 then 2 else -1

theorem parts_spec (k : Int) (S : MS) : MCalls Try.prog 52 [.int .i64 k] S fun v σ' => v = .int .i64 (partsF k) ∧ σ' = S := by
  refine mcalls_body Try.func52 rfl Try.ntmps52 (Nat.le_of_ble_eq_true rfl) ?_
  refine mwp_seq ?_
  refine mwp_region rfl ?_
  refine wOps_op rfl (op_assign rfl rfl ?_)
  refine wOps_nil ?_
  refine mwp_seq ?_
  refine mwp_seq ?_
  refine mwp_region rfl ?_
  refine wOps_op rfl (op_move rfl rfl ?_)
  refine wOps_nil ?_
  refine mwp_block ?_
  refine mwp_seq ?_
  refine mwp_seq ?_
  refine mwp_region rfl ?_
  refine wOps_op rfl (op_cmp rfl rfl rfl rfl ?_)
  refine wOps_op rfl (op_assign rfl rfl ?_)
  refine wOps_nil ?_
  refine mwp_cond_split rfl (fun h4 => ?_) (fun h4 => ?_)
  · -- yes
    refine mwp_skip ?_
    refine mwp_cond_t rfl h4 ?_
    refine mwp_seq ?_
    refine mwp_region rfl ?_
    refine wOps_op rfl (op_assign rfl rfl ?_)
    refine wOps_nil ?_
    refine mwp_ret ?_
    exact ret_tmp (.inr rfl) Try.results52 rfl (.refl _) (.int _ _) ⟨by simp_all [partsF], rfl⟩
  · -- no
    refine mwp_seq ?_
    refine mwp_region rfl ?_
    refine wOps_op rfl (op_cmp rfl rfl rfl rfl ?_)
    refine wOps_op rfl (op_assign rfl rfl ?_)
    refine wOps_nil ?_
    refine mwp_cond_split rfl (fun h4 => ?_) (fun h4 => ?_)
    · -- yes
      refine mwp_skip ?_
      refine mwp_cond_t rfl h4 ?_
      refine mwp_seq ?_
      refine mwp_region rfl ?_
      refine wOps_op rfl (op_assign rfl rfl ?_)
      refine wOps_nil ?_
      refine mwp_ret ?_
      exact ret_tmp (.inr rfl) Try.results52 rfl (.refl _) (.int _ _) ⟨by simp_all [partsF], rfl⟩
    · -- no
      refine mwp_seq ?_
      refine mwp_region rfl ?_
      refine wOps_op rfl (op_cmp rfl rfl rfl rfl ?_)
      refine wOps_op rfl (op_assign rfl rfl ?_)
      refine wOps_nil ?_
      refine mwp_cond_split rfl (fun h4 => ?_) (fun h4 => ?_)
      · -- yes
        refine mwp_skip ?_
        refine mwp_cond_t rfl h4 ?_
        refine mwp_seq ?_
        refine mwp_region rfl ?_
        refine wOps_op rfl (op_assign rfl rfl ?_)
        refine wOps_nil ?_
        refine mwp_ret ?_
        exact ret_tmp (.inr rfl) Try.results52 rfl (.refl _) (.int _ _) ⟨by simp_all [partsF], rfl⟩
      · -- no
        refine mwp_seq ?_
        refine mwp_region rfl ?_
        refine wOps_op rfl (op_cmp rfl rfl rfl rfl ?_)
        refine wOps_op rfl (op_assign rfl rfl ?_)
        refine wOps_nil ?_
        refine mwp_cond_split rfl (fun h4 => ?_) (fun h4 => ?_)
        · -- yes
          refine mwp_skip ?_
          refine mwp_cond_t rfl h4 ?_
          refine mwp_seq ?_
          refine mwp_region rfl ?_
          refine wOps_op rfl (op_assign rfl rfl ?_)
          refine wOps_nil ?_
          refine mwp_ret ?_
          exact ret_tmp (.inr rfl) Try.results52 rfl (.refl _) (.int _ _) ⟨by simp_all [partsF], rfl⟩
        · -- no
          refine mwp_region rfl ?_
          refine wOps_op rfl (op_cmp rfl rfl rfl rfl ?_)
          refine wOps_op rfl (op_assign rfl rfl ?_)
          refine wOps_nil ?_
          refine mwp_cond_split rfl (fun h4 => ?_) (fun h4 => ?_)
          · -- yes
            refine mwp_seq ?_
            refine mwp_region rfl ?_
            refine wOps_op rfl (op_assign rfl rfl ?_)
            refine wOps_nil ?_
            refine mwp_ret ?_
            exact ret_tmp (.inr rfl) Try.results52 rfl (.refl _) (.int _ _) ⟨by simp_all [partsF], rfl⟩
          · -- no
            refine mwp_seq ?_
            refine mwp_seq ?_
            refine mwp_region rfl ?_
            refine wOps_op rfl (op_cmp rfl rfl rfl rfl ?_)
            refine wOps_op rfl (op_assign rfl rfl ?_)
            refine wOps_nil ?_
            refine mwp_cond_split rfl (fun h10 => ?_) (fun h10 => ?_)
            · -- yes
              refine mwp_skip ?_
              refine mwp_cond_t rfl h10 ?_
              refine mwp_seq ?_
              refine mwp_region rfl ?_
              refine wOps_op rfl (op_assign rfl rfl ?_)
              refine wOps_nil ?_
              refine mwp_ret ?_
              exact ret_tmp (.inr rfl) Try.results52 rfl (.refl _) (.int _ _) ⟨by simp_all [partsF], rfl⟩
            · -- no
              refine mwp_region rfl ?_
              refine wOps_op rfl (op_cmp rfl rfl rfl rfl ?_)
              refine wOps_op rfl (op_assign rfl rfl ?_)
              refine wOps_nil ?_
              refine mwp_cond_split rfl (fun h10 => ?_) (fun h10 => ?_)
              · -- yes
                refine mwp_seq ?_
                refine mwp_region rfl ?_
                refine wOps_op rfl (op_assign rfl rfl ?_)
                refine wOps_nil ?_
                refine mwp_ret ?_
                exact ret_tmp (.inr rfl) Try.results52 rfl (.refl _) (.int _ _) ⟨by simp_all [partsF], rfl⟩
              · -- no
                refine mwp_seq ?_
                refine mwp_region rfl ?_
                refine wOps_op rfl (op_cmp rfl rfl rfl rfl ?_)
                refine wOps_op rfl (op_assign rfl rfl ?_)
                refine wOps_nil ?_
                refine mwp_cond_split rfl (fun h13 => ?_) (fun h13 => ?_)
                · -- yes
                  refine mwp_seq ?_
                  refine mwp_region rfl ?_
                  refine wOps_op rfl (op_assign rfl rfl ?_)
                  refine wOps_nil ?_
                  refine mwp_ret ?_
                  exact ret_tmp (.inr rfl) Try.results52 rfl (.refl _) (.int _ _) ⟨by simp_all [partsF], rfl⟩
                · -- no
                  refine mwp_skip ?_
                  refine mwp_seq ?_
                  refine mwp_region rfl ?_
                  refine wOps_op rfl (op_assign rfl rfl ?_)
                  refine wOps_nil ?_
                  refine mwp_ret ?_
                  exact ret_tmp (.inr rfl) Try.results52 rfl (.refl _) (.int _ _) ⟨by simp_all [partsF], rfl⟩
theorem all_spec (l : List Sch) (p : Sch → Bool) (kf : FuncId) (first caps : List MV) (S : MS) (hco : CallOk Try.prog kf) (hp : ∀ s ∈ l, ∀ X : MS, MCalls Try.prog kf (first ++ [encS s] ++ caps) (S ++ X) fun v σ' => v = .bool (p s) ∧ σ' = S ++ X) :
    MCalls Try.prog 53 [.lst none 2 (encSs l), .fn (.func kf) first caps] S fun v σ' => v = .bool (l.all p) ∧ σ' = S := by
  refine mcalls_body Try.func53 rfl Try.ntmps53 (Nat.le_of_ble_eq_true rfl) ?_
  refine mwp_len (t := 0) rfl fun hlen => ?_
  refine mwp_seq ?_
  refine mwp_region rfl ?_
  refine wOps_op rfl (op_assign rfl rfl ?_)
  refine wOps_nil ?_
  refine mwp_seq ?_
  refine mwp_seq ?_
  refine mwp_region rfl ?_
  refine wOps_op rfl (op_move rfl rfl ?_)
  refine wOps_op rfl (op_len_lst rfl Try.underlying22 rfl ?_)
  refine wOps_op rfl (op_move rfl rfl ?_)
  refine wOps_nil ?_
  refine mwp_block ?_
  refine mwp_loopJ (α := Nat) (fun i => [(0, .lst none 2 (encSs l)), (1, .fn (.func kf) first caps), (7, .lst none 2 (encSs l)), (8, .int .i64 ((encSs l).length : Int)), (9, .int .i64 (i : Int))]) (fun i => []) (fun i => i ≤ l.length ∧ (l.take i).all p = true) (fun i => l.length - i) (0) (Nat.le_refl _) ⟨by omega, rfl⟩ rfl (.keep rfl (.keep rfl (.keep rfl (.keep rfl (.keep rfl .nil))))) ?_
  rintro i ⟨hi, hall⟩
  refine mwp_seq ?_
  refine mwp_region rfl ?_
  refine wOps_op rfl (op_cmp rfl rfl rfl rfl ?_)
  refine wOps_nil ?_
  refine mwp_seq ?_
  refine mwp_cond_split rfl (fun h10 => ?_) (fun h10 => ?_)
  · -- yes
    have hlt : i < l.length := by rw [encSs_length] at h10; simpa using h10
    obtain ⟨⟨k, ins⟩, hs⟩ : ∃ s, l[i]? = some s := ⟨_, List.getElem?_eq_getElem hlt⟩
    refine mwp_skip ?_
    refine mwp_seq ?_
    refine mwp_block ?_
    refine mwp_seq ?_
    refine mwp_region rfl ?_
    refine wOps_op rfl (op_indexAddr rfl Try.underlying22 sz24 (by decide) rfl rfl rfl (encSs_get hs) ?_)
    refine wOps_op rfl (op_load_sptr rfl rfl ta24 rfl ?_)
    refine wOps_op rfl (op_alloc' rfl zm24 rfl rfl ?_)
    refine wOps_op rfl (op_store' rfl rfl rfl rfl sz24 rfl rfl (Nat.le_of_ble_eq_true rfl) rfl ?_)
    refine wOps_nil ?_
    refine mwp_seq ?_
    refine mwp_region rfl ?_
    refine wOps_op rfl (op_move rfl rfl ?_)
    refine wOps_op rfl (op_load' rfl rfl rfl ta24 rfl ?_)
    refine wOps_op rfl (op_call rfl rfl rfl hco ((hp _ (List.mem_of_getElem? hs) _).mono ?_))
    rintro _ _ ⟨rfl, rfl⟩
    refine wOps_op rfl (op_not rfl rfl ?_)
    refine wOps_nil ?_
    refine mwp_cond_split rfl (fun h16 => ?_) (fun h16 => ?_)
    · -- yes
      refine mwp_seq ?_
      refine mwp_region rfl ?_
      refine wOps_op rfl (op_assign rfl rfl ?_)
      refine wOps_nil ?_
      refine mwp_ret ?_
      exact ret_tmp (.inr rfl) Try.results53 rfl (.refl _) (.bool _) ⟨by rw [List.all_eq_false.2 ⟨_, List.mem_of_getElem? hs, by simpa using h16⟩], rfl⟩
    · -- no
      refine mwp_skip ?_
      refine mwp_region rfl ?_
      refine wOps_op rfl (op_arith rfl rfl rfl rfl ?_)
      refine wOps_op rfl (op_move rfl rfl ?_)
      refine wOps_nil ?_
      refine ⟨i + 1, _, by omega, ⟨by omega, ?_⟩, rfl, .nil, .old rfl rfl (.old rfl rfl (.old rfl rfl (.old rfl rfl (.new' rfl (int_succ hlt (by rw [encSs_length] at hlen; exact hlen)) (.int _ _) .nil))))⟩
      rw [List.take_add_one, hs]
      simp [hall]
      simpa using h16
  · -- no
    have hge : i = l.length := by rw [encSs_length] at h10; simp at h10; omega
    refine mwp_exit ?_
    refine mwp_seq ?_
    refine mwp_region rfl ?_
    refine wOps_op rfl (op_assign rfl rfl ?_)
    refine wOps_nil ?_
    refine mwp_ret ?_
    exact ret_tmp (.inr rfl) Try.results53 rfl (.refl _) (.bool _) ⟨by rw [hge, List.take_length] at hall; rw [hall], rfl⟩

def isF : Nat → Sch → Bool
  | 0, _ => false
  | d + 1, .mk k ins => (partsF k == (ins.length : Int)) && ins.all (isF d)

theorem is1_spec (d : Nat) (hd : d < 1000) (ih : ∀ (s : Sch) (S : MS), MCalls Try.prog 33 [encS s, .int .i64 (d : Int)] S fun v σ' => v = .bool (isF d s) ∧ σ' = S) (s : Sch) (id : Nat) (S : MS) (hS : S[id]? = some (.cells [.int .i64 ((d + 1 : Nat) : Int)])) :
    MCalls Try.prog 54 [encS s, .ref id 0] S fun v σ' => v = .bool (isF d s) ∧ σ' = S := by
  obtain ⟨k, ins⟩ := s
  have hsub : IntKind.i64.wrap (((d + 1 : Nat) : Int) - 1) = (d : Int) := by rw [wrap_i64 (by omega)]; omega
  refine mcalls_body Try.func54 rfl Try.ntmps54 (Nat.le_of_ble_eq_true rfl) ?_
  refine mwp_seq ?_
  refine mwp_region rfl ?_
  refine wOps_op rfl (op_box' rfl rfl rfl rfl ?_)
  refine wOps_op rfl (op_assign rfl rfl ?_)
  refine wOps_nil ?_
  refine mwp_seq ?_
  refine mwp_region rfl ?_
  refine wOps_op rfl (op_load' rfl rfl rfl ta24 rfl ?_)
  refine wOps_op rfl (op_load_far rfl rfl hS ta3 rfl ?_)
  refine wOps_op rfl (op_arith rfl rfl rfl rfl ?_)
  rw [hsub]
  refine wOps_op rfl (op_call rfl rfl rfl co33 ((ih (.mk k ins) _).mono ?_))
  rintro _ _ ⟨rfl, rfl⟩
  refine wOps_op rfl (op_assign rfl rfl ?_)
  refine wOps_nil ?_
  refine mwp_ret ?_
  exact ret_tmp (.inr rfl) Try.results54 rfl (.refl _) (.bool _) ⟨rfl, rfl⟩

theorem is_spec (d : Nat) : d < 1000 → ∀ (s : Sch) (S : MS), MCalls Try.prog 33 [encS s, .int .i64 (d : Int)] S fun v σ' => v = .bool (isF d s) ∧ σ' = S := by
  induction d with
  | zero =>
    rintro - ⟨k, ins⟩ S
    refine mcalls_body Try.func33 rfl Try.ntmps33 (Nat.le_of_ble_eq_true rfl) ?_
    refine mwp_seq ?_
    refine mwp_region rfl ?_
    refine wOps_op rfl (op_box' rfl rfl rfl rfl ?_)
    refine wOps_op rfl (op_box' rfl rfl rfl rfl ?_)
    refine wOps_op rfl (op_assign rfl rfl ?_)
    refine wOps_nil ?_
    refine mwp_seq ?_
    refine mwp_seq ?_
    refine mwp_draw [] [_] mo (by decide) rfl rfl rfl rfl ?_
    refine dOps_op rfl rfl (.cons (op_load' rfl rfl rfl ta3 rfl ⟨rfl, rfl⟩) .nil) ?_
    refine dOps_op rfl rfl (.cons (op_cmp rfl rfl rfl rfl ⟨rfl, rfl⟩) .nil) ?_
    refine dOps_op rfl rfl (.cons (op_move rfl rfl ⟨rfl, rfl⟩) .nil) ?_
    refine dOps_skip rfl rfl ?_
    refine dOps_skip rfl rfl ?_
    refine dOps_skip rfl rfl ?_
    refine dOps_skip rfl rfl ?_
    refine dOps_skip rfl rfl ?_
    refine dOps_skip rfl rfl ?_
    refine dOps_skip rfl rfl ?_
    refine dOps_op rfl rfl (.cons (op_pick rfl rfl rfl ⟨rfl, rfl⟩) .nil) ?_
    refine dOps_nil ?_
    refine mwp_cond_t rfl (rfl) ?_
    refine mwp_seq ?_
    refine mwp_region rfl ?_
    refine wOps_op rfl (op_assign rfl rfl ?_)
    refine wOps_nil ?_
    refine mwp_ret ?_
    exact ret_tmp (.inr rfl) Try.results33 rfl (.refl _) (.bool _) ⟨by simp [isF], rfl⟩
  | succ d ih =>
    rintro hd ⟨k, ins⟩ S
    have h0 : (((d + 1 : Nat) : Int) == 0) = false := by simp; omega
    refine mcalls_body Try.func33 rfl Try.ntmps33 (Nat.le_of_ble_eq_true rfl) ?_
    refine mwp_seq ?_
    refine mwp_region rfl ?_
    refine wOps_op rfl (op_box' rfl rfl rfl rfl ?_)
    refine wOps_op rfl (op_box' rfl rfl rfl rfl ?_)
    refine wOps_op rfl (op_assign rfl rfl ?_)
    refine wOps_nil ?_
    refine mwp_seq ?_
    refine mwp_seq ?_
    refine mwp_draw [] [_] mo (by decide) rfl rfl rfl rfl ?_
    refine dOps_op rfl rfl (.cons (op_load' rfl rfl rfl ta3 rfl ⟨rfl, rfl⟩) .nil) ?_
    refine dOps_op rfl rfl (.cons (op_cmp rfl rfl rfl rfl ⟨rfl, rfl⟩) .nil) ?_
    rw [h0]
    refine dOps_op rfl rfl (.cons (op_move rfl rfl ⟨rfl, rfl⟩) .nil) ?_
    refine dOps_op rfl rfl (.cons (op_fieldAddr_ref rfl rfl fo24_0 ⟨rfl, rfl⟩) .nil) ?_
    refine dOps_op rfl rfl (.cons (op_load' rfl rfl rfl ta3 rfl ⟨rfl, rfl⟩) .nil) ?_
    refine dOps_op rfl rfl (.cons (op_call rfl rfl rfl co52 (parts_spec _ _)) .nil) ?_
    refine dOps_op rfl rfl (.cons (op_fieldAddr_ref rfl rfl fo24_1 ⟨rfl, rfl⟩) .nil) ?_
    refine dOps_op rfl rfl (.cons (op_load' rfl rfl rfl ta22 rfl ⟨rfl, rfl⟩) .nil) ?_
    refine dOps_op rfl rfl (.cons (op_len_lst rfl Try.underlying22 rfl ⟨rfl, rfl⟩) .nil) ?_
    refine dOps_op rfl rfl (.cons (op_cmp rfl rfl rfl rfl ⟨rfl, rfl⟩) .nil) ?_
    refine dOps_op rfl rfl (.cons (op_pick rfl rfl rfl ⟨rfl, rfl⟩) .nil) ?_
    refine dOps_nil ?_
    refine mwp_cond_split rfl (fun h15 => ?_) (fun h15 => ?_)
    · -- yes
      refine mwp_seq ?_
      refine mwp_region rfl ?_
      refine wOps_op rfl (op_assign rfl rfl ?_)
      refine wOps_nil ?_
      refine mwp_ret ?_
      exact ret_tmp (.inr rfl) Try.results33 rfl (.refl _) (.bool _) ⟨by rw [encSs_length] at h15; simp at h15; simp [isF, h15], rfl⟩
    · -- no
      refine mwp_skip ?_
      refine mwp_seq ?_
      refine mwp_region rfl ?_
      refine wOps_op rfl (op_fieldAddr_ref rfl rfl fo24_1 ?_)
      refine wOps_op rfl (op_load' rfl rfl rfl ta22 rfl ?_)
      refine wOps_op rfl (op_makeFunc rfl rfl rfl ?_)
      refine wOps_op rfl (op_call rfl rfl rfl co53 ((all_spec ins (isF d) _ _ _ _ co54 fun s _ X => is1_spec d (by omega) (ih (by omega)) s _ _ (by rw [List.getElem?_append_left (by simp)]; simp [MV.cells])).mono ?_))
      rintro _ _ ⟨rfl, rfl⟩
      refine wOps_op rfl (op_assign rfl rfl ?_)
      refine wOps_nil ?_
      refine mwp_ret ?_
      exact ret_tmp (.inr rfl) Try.results33 rfl (.refl _) (.bool _) ⟨by rw [encSs_length] at h15; simp at h15; simp [isF, h15], rfl⟩

theorem Is_spec (s : Sch) (S : MS) : MCalls Try.prog 21 [encS s] S fun v σ' => v = .bool (isF 16 s) ∧ σ' = S := by
  obtain ⟨k, ins⟩ := s
  refine mcalls_body Try.func21 rfl Try.ntmps21 (Nat.le_of_ble_eq_true rfl) ?_
  refine mwp_seq ?_
  refine mwp_region rfl ?_
  refine wOps_op rfl (op_box' rfl rfl rfl rfl ?_)
  refine wOps_op rfl (op_assign rfl rfl ?_)
  refine wOps_nil ?_
  refine mwp_seq ?_
  refine mwp_region rfl ?_
  refine wOps_op rfl (op_load' rfl rfl rfl ta24 rfl ?_)
  refine wOps_op rfl (op_call rfl rfl rfl co33 ((is_spec 16 (by omega) (.mk k ins) _).mono ?_))
  rintro _ _ ⟨rfl, rfl⟩
  refine wOps_op rfl (op_assign rfl rfl ?_)
  refine wOps_nil ?_
  refine mwp_ret ?_
  exact ret_tmp (.inr rfl) Try.results21 rfl (.refl _) (.bool _) ⟨rfl, rfl⟩
end Go.Proofs.Ytihpnfpdocnniaa
