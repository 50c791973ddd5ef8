/-
  Walks of the reference's schemas, and of both levels (layer 2).
-/
import Derived.Test.YtihpnfpdocnniaaSchA
set_option linter.unusedVariables false
set_option linter.unusedSimpArgs false
namespace Go.Proofs.Ytihpnfpdocnniaa
open Go Go.MV


theorem arity_spec (k : Int) (S : MS) : MCalls Try.prog 51 [.int .i64 k] S fun v σ' => v = .int .i64 (partsF k) ∧ σ' = S := by
  refine mcalls_body Try.func51 rfl Try.ntmps51 (Nat.le_of_ble_eq_true rfl) ?_
  refine mwp_seq ?_
  refine mwp_region rfl ?_
  refine wOps_op rfl (op_assign rfl rfl ?_)
  refine wOps_nil ?_
  refine mwp_seq ?_
  refine mwp_seq ?_
  refine mwp_region rfl ?_
  refine wOps_op rfl (op_move rfl rfl ?_)
  refine wOps_nil ?_
  refine mwp_block ?_
  refine mwp_seq ?_
  refine mwp_seq ?_
  refine mwp_region rfl ?_
  refine wOps_op rfl (op_cmp rfl rfl rfl rfl ?_)
  refine wOps_op rfl (op_assign rfl rfl ?_)
  refine wOps_nil ?_
  refine mwp_cond_split rfl (fun h4 => ?_) (fun h4 => ?_)
  · -- yes
    refine mwp_skip ?_
    refine mwp_cond_t rfl h4 ?_
    refine mwp_seq ?_
    refine mwp_region rfl ?_
    refine wOps_op rfl (op_assign rfl rfl ?_)
    refine wOps_nil ?_
    refine mwp_ret ?_
    exact ret_tmp (.inr rfl) Try.results51 rfl (.refl _) (.int _ _) ⟨by simp_all [partsF], rfl⟩
  · -- no
    refine mwp_seq ?_
    refine mwp_region rfl ?_
    refine wOps_op rfl (op_cmp rfl rfl rfl rfl ?_)
    refine wOps_op rfl (op_assign rfl rfl ?_)
    refine wOps_nil ?_
    refine mwp_cond_split rfl (fun h4 => ?_) (fun h4 => ?_)
    · -- yes
      refine mwp_skip ?_
      refine mwp_cond_t rfl h4 ?_
      refine mwp_seq ?_
      refine mwp_region rfl ?_
      refine wOps_op rfl (op_assign rfl rfl ?_)
      refine wOps_nil ?_
      refine mwp_ret ?_
      exact ret_tmp (.inr rfl) Try.results51 rfl (.refl _) (.int _ _) ⟨by simp_all [partsF], rfl⟩
    · -- no
      refine mwp_seq ?_
      refine mwp_region rfl ?_
      refine wOps_op rfl (op_cmp rfl rfl rfl rfl ?_)
      refine wOps_op rfl (op_assign rfl rfl ?_)
      refine wOps_nil ?_
      refine mwp_cond_split rfl (fun h4 => ?_) (fun h4 => ?_)
      · -- yes
        refine mwp_skip ?_
        refine mwp_cond_t rfl h4 ?_
        refine mwp_seq ?_
        refine mwp_region rfl ?_
        refine wOps_op rfl (op_assign rfl rfl ?_)
        refine wOps_nil ?_
        refine mwp_ret ?_
        exact ret_tmp (.inr rfl) Try.results51 rfl (.refl _) (.int _ _) ⟨by simp_all [partsF], rfl⟩
      · -- no
        refine mwp_seq ?_
        refine mwp_region rfl ?_
        refine wOps_op rfl (op_cmp rfl rfl rfl rfl ?_)
        refine wOps_op rfl (op_assign rfl rfl ?_)
        refine wOps_nil ?_
        refine mwp_cond_split rfl (fun h4 => ?_) (fun h4 => ?_)
        · -- yes
          refine mwp_skip ?_
          refine mwp_cond_t rfl h4 ?_
          refine mwp_seq ?_
          refine mwp_region rfl ?_
          refine wOps_op rfl (op_assign rfl rfl ?_)
          refine wOps_nil ?_
          refine mwp_ret ?_
          exact ret_tmp (.inr rfl) Try.results51 rfl (.refl _) (.int _ _) ⟨by simp_all [partsF], rfl⟩
        · -- no
          refine mwp_region rfl ?_
          refine wOps_op rfl (op_cmp rfl rfl rfl rfl ?_)
          refine wOps_op rfl (op_assign rfl rfl ?_)
          refine wOps_nil ?_
          refine mwp_cond_split rfl (fun h4 => ?_) (fun h4 => ?_)
          · -- yes
            refine mwp_seq ?_
            refine mwp_region rfl ?_
            refine wOps_op rfl (op_assign rfl rfl ?_)
            refine wOps_nil ?_
            refine mwp_ret ?_
            exact ret_tmp (.inr rfl) Try.results51 rfl (.refl _) (.int _ _) ⟨by simp_all [partsF], rfl⟩
          · -- no
            refine mwp_seq ?_
            refine mwp_seq ?_
            refine mwp_region rfl ?_
            refine wOps_op rfl (op_cmp rfl rfl rfl rfl ?_)
            refine wOps_op rfl (op_assign rfl rfl ?_)
            refine wOps_nil ?_
            refine mwp_cond_split rfl (fun h10 => ?_) (fun h10 => ?_)
            · -- yes
              refine mwp_skip ?_
              refine mwp_cond_t rfl h10 ?_
              refine mwp_seq ?_
              refine mwp_region rfl ?_
              refine wOps_op rfl (op_assign rfl rfl ?_)
              refine wOps_nil ?_
              refine mwp_ret ?_
              exact ret_tmp (.inr rfl) Try.results51 rfl (.refl _) (.int _ _) ⟨by simp_all [partsF], rfl⟩
            · -- no
              refine mwp_region rfl ?_
              refine wOps_op rfl (op_cmp rfl rfl rfl rfl ?_)
              refine wOps_op rfl (op_assign rfl rfl ?_)
              refine wOps_nil ?_
              refine mwp_cond_split rfl (fun h10 => ?_) (fun h10 => ?_)
              · -- yes
                refine mwp_seq ?_
                refine mwp_region rfl ?_
                refine wOps_op rfl (op_assign rfl rfl ?_)
                refine wOps_nil ?_
                refine mwp_ret ?_
                exact ret_tmp (.inr rfl) Try.results51 rfl (.refl _) (.int _ _) ⟨by simp_all [partsF], rfl⟩
              · -- no
                refine mwp_seq ?_
                refine mwp_region rfl ?_
                refine wOps_op rfl (op_cmp rfl rfl rfl rfl ?_)
                refine wOps_op rfl (op_assign rfl rfl ?_)
                refine wOps_nil ?_
                refine mwp_cond_split rfl (fun h13 => ?_) (fun h13 => ?_)
                · -- yes
                  refine mwp_seq ?_
                  refine mwp_region rfl ?_
                  refine wOps_op rfl (op_assign rfl rfl ?_)
                  refine wOps_nil ?_
                  refine mwp_ret ?_
                  exact ret_tmp (.inr rfl) Try.results51 rfl (.refl _) (.int _ _) ⟨by simp_all [partsF], rfl⟩
                · -- no
                  refine mwp_skip ?_
                  refine mwp_seq ?_
                  refine mwp_region rfl ?_
                  refine wOps_op rfl (op_assign rfl rfl ?_)
                  refine wOps_nil ?_
                  refine mwp_ret ?_
                  exact ret_tmp (.inr rfl) Try.results51 rfl (.refl _) (.int _ _) ⟨by simp_all [partsF], rfl⟩

theorem rIs_spec (d : Nat) : d < 1000 → ∀ (s : Sch) (S : MS), MCalls Try.prog 32 [encS s, .int .i64 (d : Int)] S fun v σ' => v = .bool (isF d s) ∧ σ' = S := by
  induction d with
  | zero =>
    rintro - ⟨k, ins⟩ S
    refine mcalls_body Try.func32 rfl Try.ntmps32 (Nat.le_of_ble_eq_true rfl) ?_
    refine mwp_seq ?_
    refine mwp_region rfl ?_
    refine wOps_op rfl (op_box' rfl rfl rfl rfl ?_)
    refine wOps_op rfl (op_assign rfl rfl ?_)
    refine wOps_nil ?_
    refine mwp_seq ?_
    refine mwp_seq ?_
    refine mwp_draw [] [_] mo (by decide) rfl rfl rfl rfl ?_
    refine dOps_op rfl rfl (.cons (op_move rfl rfl ⟨rfl, rfl⟩) .nil) ?_
    refine dOps_op rfl rfl (.cons (op_cmp rfl rfl rfl rfl ⟨rfl, rfl⟩) .nil) ?_
    refine dOps_op rfl rfl (.cons (op_move rfl rfl ⟨rfl, rfl⟩) .nil) ?_
    refine dOps_skip rfl rfl ?_
    refine dOps_skip rfl rfl ?_
    refine dOps_skip rfl rfl ?_
    refine dOps_skip rfl rfl ?_
    refine dOps_skip rfl rfl ?_
    refine dOps_skip rfl rfl ?_
    refine dOps_skip rfl rfl ?_
    refine dOps_op rfl rfl (.cons (op_pick rfl rfl rfl ⟨rfl, rfl⟩) .nil) ?_
    refine dOps_nil ?_
    refine mwp_cond_t rfl (rfl) ?_
    refine mwp_seq ?_
    refine mwp_region rfl ?_
    refine wOps_op rfl (op_assign rfl rfl ?_)
    refine wOps_nil ?_
    refine mwp_ret ?_
    exact ret_tmp (.inr rfl) Try.results32 rfl (.refl _) (.bool _) ⟨by simp [isF], rfl⟩
  | succ d ih =>
    rintro hd ⟨k, ins⟩ S
    have h0 : decide (((d + 1 : Nat) : Int) ≤ 0) = false := by simp <;> omega
    have hsub : IntKind.i64.wrap (((d + 1 : Nat) : Int) - 1) = (d : Int) := by rw [wrap_i64 (by omega)]; omega
    refine mcalls_body Try.func32 rfl Try.ntmps32 (Nat.le_of_ble_eq_true rfl) ?_
    refine mwp_seq ?_
    refine mwp_region rfl ?_
    refine wOps_op rfl (op_box' rfl rfl rfl rfl ?_)
    refine wOps_op rfl (op_assign rfl rfl ?_)
    refine wOps_nil ?_
    refine mwp_seq ?_
    refine mwp_seq ?_
    refine mwp_draw [] [_] mo (by decide) rfl rfl rfl rfl ?_
    refine dOps_op rfl rfl (.cons (op_move rfl rfl ⟨rfl, rfl⟩) .nil) ?_
    refine dOps_op rfl rfl (.cons (op_cmp rfl rfl rfl rfl ⟨rfl, rfl⟩) .nil) ?_
    rw [h0]
    refine dOps_op rfl rfl (.cons (op_move rfl rfl ⟨rfl, rfl⟩) .nil) ?_
    refine dOps_op rfl rfl (.cons (op_fieldAddr_ref rfl rfl fo24_1 ⟨rfl, rfl⟩) .nil) ?_
    refine dOps_op rfl rfl (.cons (op_load' rfl rfl rfl ta22 rfl ⟨rfl, rfl⟩) .nil) ?_
    refine dOps_op rfl rfl (.cons (op_len_lst rfl Try.underlying22 rfl ⟨rfl, rfl⟩) .nil) ?_
    refine dOps_op rfl rfl (.cons (op_fieldAddr_ref rfl rfl fo24_0 ⟨rfl, rfl⟩) .nil) ?_
    refine dOps_op rfl rfl (.cons (op_load' rfl rfl rfl ta3 rfl ⟨rfl, rfl⟩) .nil) ?_
    refine dOps_op rfl rfl (.cons (op_call rfl rfl rfl co51 (arity_spec _ _)) .nil) ?_
    refine dOps_op rfl rfl (.cons (op_cmp rfl rfl rfl rfl ⟨rfl, rfl⟩) .nil) ?_
    refine dOps_op rfl rfl (.cons (op_pick rfl rfl rfl ⟨rfl, rfl⟩) .nil) ?_
    refine dOps_nil ?_
    refine mwp_cond_split rfl (fun h16 => ?_) (fun h16 => ?_)
    · -- yes
      refine mwp_seq ?_
      refine mwp_region rfl ?_
      refine wOps_op rfl (op_assign rfl rfl ?_)
      refine wOps_nil ?_
      refine mwp_ret ?_
      exact ret_tmp (.inr rfl) Try.results32 rfl (.refl _) (.bool _) ⟨by rw [encSs_length] at h16; simp at h16; simp [isF]; try (intro h; exact absurd h.symm h16), rfl⟩
    · -- no
      refine mwp_len (t := 10) rfl fun hlen => ?_
      rw [encSs_length] at hlen
      refine mwp_skip ?_
      refine mwp_seq ?_
      refine mwp_seq ?_
      refine mwp_region rfl ?_
      refine wOps_op rfl (op_assign rfl rfl ?_)
      refine wOps_nil ?_
      refine mwp_block ?_
      refine mwp_loop0 (α := Nat) (fun i => [(1, .int .i64 ((d + 1 : Nat) : Int)), (2, .ref (S.length + 0) 0), (5, .int .i64 (i : Int))]) (fun i => [.cells [.int .i64 k, .lst none 2 (encSs ins)]]) (fun i => i ≤ ins.length ∧ (ins.take i).all (isF d) = true) (fun i => ins.length - i) (0) ⟨by omega, rfl⟩ rfl (.keep rfl (.keep rfl (.keep rfl .nil))) ?_
      rintro i ⟨hi, hall⟩
      refine mwp_seq ?_
      refine mwp_seq ?_
      refine mwp_region rfl ?_
      refine wOps_op rfl (op_move rfl rfl ?_)
      refine wOps_op rfl (op_fieldAddr_ref rfl rfl fo24_1 ?_)
      refine wOps_op rfl (op_load' rfl rfl rfl ta22 rfl ?_)
      refine wOps_op rfl (op_len_lst rfl Try.underlying22 rfl ?_)
      refine wOps_op rfl (op_cmp rfl rfl rfl rfl ?_)
      refine wOps_nil ?_
      refine mwp_cond_split rfl (fun h21 => ?_) (fun h21 => ?_)
      · -- yes
        have hlt : i < ins.length := by rw [encSs_length] at h21; simpa using h21
        obtain ⟨⟨k2, ins2⟩, hs⟩ : ∃ s, ins[i]? = some s := ⟨_, List.getElem?_eq_getElem hlt⟩
        refine mwp_skip ?_
        refine mwp_seq ?_
        refine mwp_block ?_
        refine mwp_seq ?_
        refine mwp_region rfl ?_
        refine wOps_op rfl (op_fieldAddr_ref rfl rfl fo24_1 ?_)
        refine wOps_op rfl (op_load' rfl rfl rfl ta22 rfl ?_)
        refine wOps_op rfl (op_move rfl rfl ?_)
        refine wOps_op rfl (op_indexAddr rfl Try.underlying22 sz24 (by decide) rfl rfl rfl (encSs_get hs) ?_)
        refine wOps_op rfl (op_load_sptr rfl rfl ta24 rfl ?_)
        refine wOps_op rfl (op_move rfl rfl ?_)
        refine wOps_op rfl (op_arith rfl rfl rfl rfl ?_)
        rw [hsub]
        refine wOps_op rfl (op_call rfl rfl rfl co32 ((ih (by omega) (.mk k2 ins2) _).mono ?_))
        rintro _ _ ⟨rfl, rfl⟩
        refine wOps_op rfl (op_not rfl rfl ?_)
        refine wOps_nil ?_
        refine mwp_cond_split rfl (fun h32 => ?_) (fun h32 => ?_)
        · -- yes
          refine mwp_seq ?_
          refine mwp_region rfl ?_
          refine wOps_op rfl (op_assign rfl rfl ?_)
          refine wOps_nil ?_
          refine mwp_ret ?_
          exact ret_tmp (.inr rfl) Try.results32 rfl (.refl _) (.bool _) ⟨by simp only [isF]; rw [List.all_eq_false.2 ⟨_, List.mem_of_getElem? hs, by simpa using h32⟩]; simp, rfl⟩
        · -- no
          refine mwp_skip ?_
          refine mwp_region rfl ?_
          refine wOps_op rfl (op_move rfl rfl ?_)
          refine wOps_op rfl (op_arith rfl rfl rfl rfl ?_)
          refine wOps_op rfl (op_assign rfl rfl ?_)
          refine wOps_nil ?_
          refine ⟨i + 1, by omega, ⟨by omega, ?_⟩, rfl, .keep rfl (.keep rfl (.eq rfl (int_succ hlt hlen) .nil))⟩
          rw [List.take_add_one, hs]
          simp [hall]
          simpa using h32
      · -- no
        have hge : i = ins.length := by rw [encSs_length] at h21; simp at h21; omega
        refine mwp_exit ?_
        refine mwp_seq ?_
        refine mwp_region rfl ?_
        refine wOps_op rfl (op_assign rfl rfl ?_)
        refine wOps_nil ?_
        refine mwp_ret ?_
        exact ret_tmp (.inr rfl) Try.results32 rfl (.refl _) (.bool _) ⟨by rw [hge, List.take_length] at hall; rw [encSs_length] at h16; simp at h16; simp [isF, hall, h16], rfl⟩

theorem rIsSchema_spec (s : Sch) (S : MS) : MCalls Try.prog 19 [encS s] S fun v σ' => v = .bool (isF 16 s) ∧ σ' = S := by
  obtain ⟨k, ins⟩ := s
  refine mcalls_body Try.func19 rfl Try.ntmps19 (Nat.le_of_ble_eq_true rfl) ?_
  refine mwp_seq ?_
  refine mwp_region rfl ?_
  refine wOps_op rfl (op_box' rfl rfl rfl rfl ?_)
  refine wOps_op rfl (op_assign rfl rfl ?_)
  refine wOps_nil ?_
  refine mwp_seq ?_
  refine mwp_region rfl ?_
  refine wOps_op rfl (op_load' rfl rfl rfl ta24 rfl ?_)
  refine wOps_op rfl (op_call rfl rfl rfl co32 ((rIs_spec 16 (by omega) (.mk k ins) _).mono ?_))
  rintro _ _ ⟨rfl, rfl⟩
  refine wOps_op rfl (op_assign rfl rfl ?_)
  refine wOps_nil ?_
  refine mwp_ret ?_
  exact ret_tmp (.inr rfl) Try.results19 rfl (.refl _) (.bool _) ⟨rfl, rfl⟩
end Go.Proofs.Ytihpnfpdocnniaa
