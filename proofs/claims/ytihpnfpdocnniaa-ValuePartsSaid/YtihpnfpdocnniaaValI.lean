/-
  Walk of the law on the parts that a value has (layer 4).
-/
import Derived.Test.YtihpnfpdocnniaaValH
set_option linter.unusedVariables false
set_option linter.unusedSimpArgs false
set_option maxHeartbeats 1000000
namespace Go.Proofs.Ytihpnfpdocnniaa
open Go Go.MV
def cN (b : Bool) : MV := cond b (.int .u64 1) (.int .u64 0)
def cS (b : Bool) : MV := cond b (.lst none 1 [encX [97]]) .lst0
def cC (b : Bool) : MV := cond b (.lst none 1 [encC [(1, 1)]]) .lst0
def vOne : Val := .mk 1 0 [] [] []
def cW (b : Bool) : MV := cond b (.lst none 5 [encV vOne]) .lst0
def vX (n m s c v : Bool) : Val := .mk (cond n 1 0) (cond m 1 0) (cond s [[97]] []) (cond c [[(1, 1)]] []) (cond v [vOne] [])
theorem sub_parts (n m s c v : Bool) : Sub (.agg [cN n, cN m, cS s, cC c, cW v]) (encV (vX n m s c v)) := by
  have h1 : ∀ b, Sub (cN b) (.int .u64 (cond b 1 0)) := fun b => by cases b <;> exact .refl _
  have h2 : Sub (cS s) (.lst none 1 ((cond s [[97]] [] : List Bs).map encX)) := by cases s; exact .nil 1; exact .refl _
  have h3 : Sub (cC c) (.lst none 1 ((cond c [[(1, 1)]] [] : List (List Tk)).map encC)) := by cases c; exact .nil 1; exact .refl _
  have h4 : Sub (cW v) (.lst none 5 (encVs (cond v [vOne] []))) := by cases v; exact .nil 5; exact .refl _
  exact .agg (.cons (h1 n) (.cons (h1 m) (.cons h2 (.cons h3 (.cons h4 .nil)))))
theorem ok_vX (n m s c v : Bool) : okV (vX n m s c v) := by
  cases n <;> cases m <;> cases s <;> cases c <;> cases v <;> simp [vX, okV, okVs, vOne, okTk]
def wantF : Nat → Bool → Bool → Bool → Bool → Bool → Bool
  | 1, n, m, s, c, v => !m && !s && !c && !v
  | 2, n, m, s, c, v => !m && !s && !c && !v
  | 3, n, m, s, c, v => !n && !m && !c && !v
  | 4, n, m, s, c, v => !n && !m && !c && (s == v)
  | 5, n, m, s, c, v => false
  | 6, n, m, s, c, v => !c && !v && (s || !n && !m)
  | 7, n, m, s, c, v => !n && !m && !s && !v
  | 8, n, m, s, c, v => !n && !m && !s && (c == v)
  | _, _, _, _, _, _ => false
def tyK : Nat → Sch
  | 4 => .mk 4 [.mk 1 []]
  | 5 => .mk 5 [.mk 1 [], .mk 1 []]
  | 8 => .mk 8 [.mk 1 []]
  | k => .mk (k : Int) []
theorem one_is : isVF (.mk 1 []) vOne = true ∧ noneF (.mk 1 []) vOne = false := by
  refine ⟨by unfold vOne; rw [isVF_mk 1]; rfl, ?_⟩
  unfold noneF BottomF
  rw [if_pos (by decide)]
  simp [bottomF, noV, vOne]
theorem parts_law {k : Nat} (hk : k = 1 ∨ k = 2 ∨ k = 3 ∨ k = 4 ∨ k = 5 ∨ k = 6 ∨ k = 7 ∨ k = 8) (n m s c v : Bool) : (isF 16 (tyK k) && isVF (tyK k) (vX n m s c v)) = wantF k n m s c v := by
  obtain ⟨h1, h2⟩ := one_is
  have hf : isF 16 (tyK k) = true := by rcases hk with rfl | rfl | rfl | rfl | rfl | rfl | rfl | rfl <;> decide
  rw [hf, Bool.true_and]
  rcases hk with rfl | rfl | rfl | rfl | rfl | rfl | rfl | rfl
  · show isVF (.mk 1 []) (.mk (cond n 1 0) (cond m 1 0) (cond s [[97]] []) (cond c [[(1, 1)]] []) (cond v [vOne] [])) = wantF 1 n m s c v; rw [isVF_mk 1]; cases n <;> cases m <;> cases s <;> cases c <;> cases v <;> rfl
  · show isVF (.mk 2 []) (.mk (cond n 1 0) (cond m 1 0) (cond s [[97]] []) (cond c [[(1, 1)]] []) (cond v [vOne] [])) = wantF 2 n m s c v; rw [isVF_mk 2]; cases n <;> cases m <;> cases s <;> cases c <;> cases v <;> rfl
  · show isVF (.mk 3 []) (.mk (cond n 1 0) (cond m 1 0) (cond s [[97]] []) (cond c [[(1, 1)]] []) (cond v [vOne] [])) = wantF 3 n m s c v; rw [isVF_mk 3]; cases n <;> cases m <;> cases s <;> cases c <;> cases v <;> rfl
  · show isVF (.mk 4 [.mk 1 []]) (.mk (cond n 1 0) (cond m 1 0) (cond s [[97]] []) (cond c [[(1, 1)]] []) (cond v [vOne] [])) = wantF 4 n m s c v; rw [isVF_mk 4]
    cases n <;> cases m <;> cases s <;> cases c <;> cases v <;> simp [isVL, h1, h2, bareF, numsK, textsK, clocksK, valuesK, Val.nv, Val.mv, Val.sv, Val.cv, Val.vv, isRowF, risesF, shortF, wantF]
  · show isVF (.mk 5 [.mk 1 [], .mk 1 []]) (.mk (cond n 1 0) (cond m 1 0) (cond s [[97]] []) (cond c [[(1, 1)]] []) (cond v [vOne] [])) = wantF 5 n m s c v; rw [isVF_mk 5]; cases n <;> cases m <;> cases s <;> cases c <;> cases v <;> simp [wantF]
  · show isVF (.mk 6 []) (.mk (cond n 1 0) (cond m 1 0) (cond s [[97]] []) (cond c [[(1, 1)]] []) (cond v [vOne] [])) = wantF 6 n m s c v; rw [isVF_mk 6]; cases n <;> cases m <;> cases s <;> cases c <;> cases v <;> rfl
  · show isVF (.mk 7 []) (.mk (cond n 1 0) (cond m 1 0) (cond s [[97]] []) (cond c [[(1, 1)]] []) (cond v [vOne] [])) = wantF 7 n m s c v; rw [isVF_mk 7]; cases n <;> cases m <;> cases s <;> cases c <;> cases v <;> decide +kernel
  · show isVF (.mk 8 [.mk 1 []]) (.mk (cond n 1 0) (cond m 1 0) (cond s [[97]] []) (cond c [[(1, 1)]] []) (cond v [vOne] [])) = wantF 8 n m s c v; rw [isVF_mk 8]
    have hc : isClockF [(1, 1)] = true := clock_one (by omega) (by omega)
    cases n <;> cases m <;> cases s <;> cases c <;> cases v <;> simp [isVL, h1, bareF, numsK, textsK, clocksK, valuesK, Val.nv, Val.mv, Val.sv, Val.cv, Val.vv, isCauseF, pairsF, wantF, hc]
theorem rem8 {m j : Nat} (h : m % 8 = j) : Int.tmod (m : Int) 8 = (j : Int) := by subst h; rfl


theorem ValueParts_spec (a : Nat) (n m s c v : Bool) (S : MS) : MCalls Try.prog 5 [.int .u8 (a : Int), .bool n, .bool m, .bool s, .bool c, .bool v] S fun v σ' => v = .bool true ∧ σ' = S := by
  have h8 : a % 8 = 0 ∨ a % 8 = 1 ∨ a % 8 = 2 ∨ a % 8 = 3 ∨ a % 8 = 4 ∨ a % 8 = 5 ∨ a % 8 = 6 ∨ a % 8 = 7 := by omega
  rcases h8 with h | h | h | h | h | h | h | h
  ·
    refine mcalls_body Try.func5 rfl Try.ntmps5 (Nat.le_of_ble_eq_true rfl) ?_
    refine mwp_seq ?_
    refine mwp_region rfl ?_
    refine wOps_op rfl (op_assign rfl rfl ?_)
    refine wOps_nil ?_
    refine mwp_seq ?_
    refine mwp_seq ?_
    refine mwp_region rfl ?_
    refine wOps_op rfl (op_call rfl rfl rfl co8 ((knownV_spec _).mono ?_))
    rintro _ _ ⟨rfl, rfl⟩
    refine wOps_op rfl (op_not rfl rfl ?_)
    refine wOps_nil ?_
    refine mwp_cond_f rfl (rfl) ?_
    refine mwp_skip ?_
    refine mwp_seq ?_
    refine mwp_region rfl ?_
    refine wOps_op rfl (op_move rfl rfl ?_)
    refine wOps_op rfl (op_rem rfl rfl rfl (by decide) (rem8 h) ?_)
    refine wOps_op rfl (op_convInt rfl Try.underlying5 Try.underlying3 rfl (show IntKind.i64.wrap 0 = 0 from rfl) ?_)
    refine wOps_op rfl (op_arith rfl rfl rfl (show intArith .add .i64 0 1 = some 1 from rfl) ?_)
    refine wOps_op rfl (op_assign rfl rfl ?_)
    refine wOps_nil ?_
    refine mwp_seq ?_
    refine mwp_region rfl ?_
    refine wOps_op rfl (op_build rfl Try.underlying30 zm30 .nil (by kernel_rfl) ?_)
    refine wOps_op rfl (op_alloc' rfl zm30 rfl rfl ?_)
    refine wOps_op rfl (op_store' rfl rfl rfl rfl sz30 rfl rfl (Nat.le_of_ble_eq_true rfl) rfl ?_)
    refine wOps_nil ?_
    refine mwp_join (E := [(1, .bool n), (2, .bool m), (3, .bool s), (4, .bool c), (5, .bool v), (13, .int .i64 1), (14, .ref (S.length + 0) 0)]) (S ++ [.cells [cN n, .int .u64 0, .lst0, .lst0, .lst0]]) ?_ ?_
    ·
      refine mwp_seq ?_
      refine mwp_region rfl ?_
      refine wOps_op rfl (op_move rfl rfl ?_)
      refine wOps_nil ?_
      refine mwp_cond_split rfl (fun h24 => ?_) (fun h24 => ?_)
      · -- yes
        refine mwp_region rfl ?_
        refine wOps_op rfl (op_fieldAddr_ref rfl rfl fo30_0 ?_)
        refine wOps_op rfl (op_store' rfl rfl rfl rfl sz25 rfl rfl (Nat.le_of_ble_eq_true rfl) rfl ?_)
        refine wOps_nil ?_
        exact ⟨rfl, by rw [h24]; rfl, (.keep rfl (.keep rfl (.keep rfl (.keep rfl (.keep rfl (.keep rfl (.keep rfl .nil)))))))⟩
      · -- no
        refine mwp_skip ?_
        exact ⟨rfl, by rw [h24]; rfl, (.keep rfl (.keep rfl (.keep rfl (.keep rfl (.keep rfl (.keep rfl (.keep rfl .nil)))))))⟩
    ·
      refine mwp_join (E := [(1, .bool n), (2, .bool m), (3, .bool s), (4, .bool c), (5, .bool v), (13, .int .i64 1), (14, .ref (S.length + 0) 0)]) (S ++ [.cells [cN n, cN m, .lst0, .lst0, .lst0]]) ?_ ?_
      ·
        refine mwp_seq ?_
        refine mwp_region rfl ?_
        refine wOps_op rfl (op_move rfl rfl ?_)
        refine wOps_nil ?_
        refine mwp_cond_split rfl (fun h26 => ?_) (fun h26 => ?_)
        · -- yes
          refine mwp_region rfl ?_
          refine wOps_op rfl (op_fieldAddr_ref rfl rfl fo30_1 ?_)
          refine wOps_op rfl (op_store' rfl rfl rfl rfl sz25 rfl rfl (Nat.le_of_ble_eq_true rfl) rfl ?_)
          refine wOps_nil ?_
          exact ⟨rfl, by rw [h26]; rfl, (.keep rfl (.keep rfl (.keep rfl (.keep rfl (.keep rfl (.keep rfl (.keep rfl .nil)))))))⟩
        · -- no
          refine mwp_skip ?_
          exact ⟨rfl, by rw [h26]; rfl, (.keep rfl (.keep rfl (.keep rfl (.keep rfl (.keep rfl (.keep rfl (.keep rfl .nil)))))))⟩
      ·
        refine mwp_join (E := [(1, .bool n), (2, .bool m), (3, .bool s), (4, .bool c), (5, .bool v), (13, .int .i64 1), (14, .ref (S.length + 0) 0)]) (S ++ [.cells [cN n, cN m, cS s, .lst0, .lst0]]) ?_ ?_
        ·
          refine mwp_seq ?_
          refine mwp_region rfl ?_
          refine wOps_op rfl (op_move rfl rfl ?_)
          refine wOps_nil ?_
          refine mwp_cond_split rfl (fun h28 => ?_) (fun h28 => ?_)
          · -- yes
            refine mwp_region rfl ?_
            refine wOps_op rfl (op_buildSlice rfl Try.underlying26 el9 rfl rfl (by decide) (by decide) rfl rfl ?_)
            refine wOps_op rfl (op_fieldAddr_ref rfl rfl fo30_2 ?_)
            refine wOps_op rfl (op_store' rfl rfl rfl rfl sz26 rfl rfl (Nat.le_of_ble_eq_true rfl) rfl ?_)
            refine wOps_nil ?_
            exact ⟨rfl, by rw [h28]; rfl, (.keep rfl (.keep rfl (.keep rfl (.keep rfl (.keep rfl (.keep rfl (.keep rfl .nil)))))))⟩
          · -- no
            refine mwp_skip ?_
            exact ⟨rfl, by rw [h28]; rfl, (.keep rfl (.keep rfl (.keep rfl (.keep rfl (.keep rfl (.keep rfl (.keep rfl .nil)))))))⟩
        ·
          refine mwp_join (E := [(1, .bool n), (2, .bool m), (3, .bool s), (4, .bool c), (5, .bool v), (13, .int .i64 1), (14, .ref (S.length + 0) 0)]) (S ++ [.cells [cN n, cN m, cS s, cC c, .lst0]]) ?_ ?_
          ·
            refine mwp_seq ?_
            refine mwp_region rfl ?_
            refine wOps_op rfl (op_move rfl rfl ?_)
            refine wOps_nil ?_
            refine mwp_cond_split rfl (fun h31 => ?_) (fun h31 => ?_)
            · -- yes
              refine mwp_region rfl ?_
              refine wOps_op rfl (op_build rfl Try.underlying39 zm39 (.cons fo39_0 sz3 rfl rfl (Nat.le_of_ble_eq_true rfl) (.cons fo39_1 sz25 rfl rfl (Nat.le_of_ble_eq_true rfl) .nil)) (by kernel_rfl) ?_)
              refine wOps_op rfl (op_buildSlice rfl Try.underlying40 el39 rfl rfl (by decide) (by decide) rfl rfl ?_)
              refine wOps_op rfl (op_buildSlice rfl Try.underlying27 el40 rfl rfl (by decide) (by decide) rfl rfl ?_)
              refine wOps_op rfl (op_fieldAddr_ref rfl rfl fo30_3 ?_)
              refine wOps_op rfl (op_store' rfl rfl rfl rfl sz27 rfl rfl (Nat.le_of_ble_eq_true rfl) rfl ?_)
              refine wOps_nil ?_
              exact ⟨rfl, by rw [h31]; rfl, (.keep rfl (.keep rfl (.keep rfl (.keep rfl (.keep rfl (.keep rfl (.keep rfl .nil)))))))⟩
            · -- no
              refine mwp_skip ?_
              exact ⟨rfl, by rw [h31]; rfl, (.keep rfl (.keep rfl (.keep rfl (.keep rfl (.keep rfl (.keep rfl (.keep rfl .nil)))))))⟩
          ·
            refine mwp_join (E := [(1, .bool n), (2, .bool m), (3, .bool s), (4, .bool c), (5, .bool v), (13, .int .i64 1), (14, .ref (S.length + 0) 0)]) (S ++ [.cells [cN n, cN m, cS s, cC c, cW v]]) ?_ ?_
            ·
              refine mwp_seq ?_
              refine mwp_region rfl ?_
              refine wOps_op rfl (op_move rfl rfl ?_)
              refine wOps_nil ?_
              refine mwp_cond_split rfl (fun h36 => ?_) (fun h36 => ?_)
              · -- yes
                refine mwp_region rfl ?_
                refine wOps_op rfl (op_viewTo (y := encV vOne) (op_build rfl Try.underlying30 zm30 (.cons fo30_0 sz25 rfl rfl (Nat.le_of_ble_eq_true rfl) .nil) (by kernel_rfl) ⟨rfl, rfl⟩) (.agg (.cons (.refl _) (.cons (.refl _) (.cons (.nil 1) (.cons (.nil 1) (.cons (.nil 5) .nil)))))) ?_)
                refine wOps_op rfl (op_buildSlice rfl Try.underlying28 el30 rfl rfl (by decide) (by decide) rfl rfl ?_)
                refine wOps_op rfl (op_fieldAddr_ref rfl rfl fo30_4 ?_)
                refine wOps_op rfl (op_store' rfl rfl rfl rfl sz28 rfl rfl (Nat.le_of_ble_eq_true rfl) rfl ?_)
                refine wOps_nil ?_
                exact ⟨rfl, by rw [h36]; rfl, (.keep rfl (.keep rfl (.keep rfl (.keep rfl (.keep rfl (.keep rfl (.keep rfl .nil)))))))⟩
              · -- no
                refine mwp_skip ?_
                exact ⟨rfl, by rw [h36]; rfl, (.keep rfl (.keep rfl (.keep rfl (.keep rfl (.keep rfl (.keep rfl (.keep rfl .nil)))))))⟩
            ·
              refine mwp_seq ?_
              refine mwp_region rfl ?_
              refine wOps_op rfl (op_move rfl rfl ?_)
              refine wOps_op rfl (op_call rfl rfl rfl co20 (((of_spec 1 [] _).sub (.cons (.refl _) (.cons (.nil 2) .nil))).mono ?_))
              rintro _ _ ⟨rfl, rfl⟩
              refine wOps_op rfl (op_alloc' rfl zm24 rfl rfl ?_)
              refine wOps_op rfl (op_store' rfl rfl rfl rfl sz24 rfl rfl (Nat.le_of_ble_eq_true rfl) rfl ?_)
              refine wOps_op rfl (op_assign rfl rfl ?_)
              refine wOps_nil ?_
              refine mwp_seq ?_
              refine mwp_seq ?_
              refine mwp_region rfl ?_
              refine wOps_op rfl (op_move rfl rfl ?_)
              refine wOps_nil ?_
              refine mwp_block ?_
              refine mwp_seq ?_
              refine mwp_seq ?_
              refine mwp_region rfl ?_
              refine wOps_op rfl (op_cmp rfl rfl rfl rfl ?_)
              refine wOps_op rfl (op_assign rfl rfl ?_)
              refine wOps_nil ?_
              refine mwp_cond_t rfl (rfl) ?_
              refine mwp_skip ?_
              refine mwp_cond_t rfl (rfl) ?_
              refine mwp_region rfl ?_
              refine wOps_op rfl (op_move rfl rfl ?_)
              refine wOps_op rfl (op_not rfl rfl ?_)
              refine wOps_op rfl (op_move rfl rfl ?_)
              refine wOps_case (fun h48 => ?_) (fun h48 => ?_)
              ·
                refine wOps_op rfl (op_move rfl rfl ?_)
                refine wOps_op rfl (op_not rfl rfl ?_)
                refine wOps_op rfl (op_pick rfl rfl rfl ?_)
                refine wOps_op rfl (op_move rfl rfl ?_)
                refine wOps_case (fun h52 => ?_) (fun h52 => ?_)
                ·
                  refine wOps_op rfl (op_move rfl rfl ?_)
                  refine wOps_op rfl (op_not rfl rfl ?_)
                  refine wOps_op rfl (op_pick rfl rfl rfl ?_)
                  refine wOps_op rfl (op_move rfl rfl ?_)
                  refine wOps_case (fun h56 => ?_) (fun h56 => ?_)
                  ·
                    refine wOps_op rfl (op_move rfl rfl ?_)
                    refine wOps_op rfl (op_not rfl rfl ?_)
                    refine wOps_op rfl (op_pick rfl rfl rfl ?_)
                    refine wOps_op rfl (op_assign rfl rfl ?_)
                    refine wOps_nil ?_
                    refine mwp_seq ?_
                    refine mwp_region rfl ?_
                    refine wOps_op rfl (op_load' rfl rfl rfl ta24 rfl ?_)
                    refine wOps_op rfl (op_load' rfl rfl rfl ta30 rfl ?_)
                    refine wOps_op rfl (op_call rfl rfl rfl co9 (((valIs_spec (tyK 1) (vX n m s c v) (ok_vX n m s c v) _).sub (.cons (.refl _) (.cons (sub_parts n m s c v) .nil))).mono ?_))
                    rintro _ _ ⟨rfl, rfl⟩
                    rw [parts_law (by omega)]
                    refine wOps_op rfl (op_move rfl rfl ?_)
                    refine wOps_op rfl (op_booleq rfl Try.underlying4 rfl rfl ?_)
                    refine wOps_op rfl (op_assign rfl rfl ?_)
                    refine wOps_nil ?_
                    refine mwp_ret ?_
                    exact ret_tmp (.inr rfl) Try.results5 rfl (.of_eq (by cases n <;> cases m <;> cases s <;> cases c <;> cases v <;> simp_all [wantF])) (.bool _) ⟨rfl, rfl⟩
                  ·
                    refine wOps_skip rfl ?_
                    refine wOps_skip rfl ?_
                    refine wOps_op rfl (op_pick rfl rfl rfl ?_)
                    refine wOps_op rfl (op_assign rfl rfl ?_)
                    refine wOps_nil ?_
                    refine mwp_seq ?_
                    refine mwp_region rfl ?_
                    refine wOps_op rfl (op_load' rfl rfl rfl ta24 rfl ?_)
                    refine wOps_op rfl (op_load' rfl rfl rfl ta30 rfl ?_)
                    refine wOps_op rfl (op_call rfl rfl rfl co9 (((valIs_spec (tyK 1) (vX n m s c v) (ok_vX n m s c v) _).sub (.cons (.refl _) (.cons (sub_parts n m s c v) .nil))).mono ?_))
                    rintro _ _ ⟨rfl, rfl⟩
                    rw [parts_law (by omega)]
                    refine wOps_op rfl (op_move rfl rfl ?_)
                    refine wOps_op rfl (op_booleq rfl Try.underlying4 rfl rfl ?_)
                    refine wOps_op rfl (op_assign rfl rfl ?_)
                    refine wOps_nil ?_
                    refine mwp_ret ?_
                    exact ret_tmp (.inr rfl) Try.results5 rfl (.of_eq (by cases n <;> cases m <;> cases s <;> cases c <;> cases v <;> simp_all [wantF])) (.bool _) ⟨rfl, rfl⟩
                ·
                  refine wOps_skip rfl ?_
                  refine wOps_skip rfl ?_
                  refine wOps_op rfl (op_pick rfl rfl rfl ?_)
                  refine wOps_op rfl (op_move rfl rfl ?_)
                  refine wOps_skip rfl ?_
                  refine wOps_skip rfl ?_
                  refine wOps_op rfl (op_pick rfl rfl rfl ?_)
                  refine wOps_op rfl (op_assign rfl rfl ?_)
                  refine wOps_nil ?_
                  refine mwp_seq ?_
                  refine mwp_region rfl ?_
                  refine wOps_op rfl (op_load' rfl rfl rfl ta24 rfl ?_)
                  refine wOps_op rfl (op_load' rfl rfl rfl ta30 rfl ?_)
                  refine wOps_op rfl (op_call rfl rfl rfl co9 (((valIs_spec (tyK 1) (vX n m s c v) (ok_vX n m s c v) _).sub (.cons (.refl _) (.cons (sub_parts n m s c v) .nil))).mono ?_))
                  rintro _ _ ⟨rfl, rfl⟩
                  rw [parts_law (by omega)]
                  refine wOps_op rfl (op_move rfl rfl ?_)
                  refine wOps_op rfl (op_booleq rfl Try.underlying4 rfl rfl ?_)
                  refine wOps_op rfl (op_assign rfl rfl ?_)
                  refine wOps_nil ?_
                  refine mwp_ret ?_
                  exact ret_tmp (.inr rfl) Try.results5 rfl (.of_eq (by cases n <;> cases m <;> cases s <;> cases c <;> cases v <;> simp_all [wantF])) (.bool _) ⟨rfl, rfl⟩
              ·
                refine wOps_skip rfl ?_
                refine wOps_skip rfl ?_
                refine wOps_op rfl (op_pick rfl rfl rfl ?_)
                refine wOps_op rfl (op_move rfl rfl ?_)
                refine wOps_skip rfl ?_
                refine wOps_skip rfl ?_
                refine wOps_op rfl (op_pick rfl rfl rfl ?_)
                refine wOps_op rfl (op_move rfl rfl ?_)
                refine wOps_skip rfl ?_
                refine wOps_skip rfl ?_
                refine wOps_op rfl (op_pick rfl rfl rfl ?_)
                refine wOps_op rfl (op_assign rfl rfl ?_)
                refine wOps_nil ?_
                refine mwp_seq ?_
                refine mwp_region rfl ?_
                refine wOps_op rfl (op_load' rfl rfl rfl ta24 rfl ?_)
                refine wOps_op rfl (op_load' rfl rfl rfl ta30 rfl ?_)
                refine wOps_op rfl (op_call rfl rfl rfl co9 (((valIs_spec (tyK 1) (vX n m s c v) (ok_vX n m s c v) _).sub (.cons (.refl _) (.cons (sub_parts n m s c v) .nil))).mono ?_))
                rintro _ _ ⟨rfl, rfl⟩
                rw [parts_law (by omega)]
                refine wOps_op rfl (op_move rfl rfl ?_)
                refine wOps_op rfl (op_booleq rfl Try.underlying4 rfl rfl ?_)
                refine wOps_op rfl (op_assign rfl rfl ?_)
                refine wOps_nil ?_
                refine mwp_ret ?_
                exact ret_tmp (.inr rfl) Try.results5 rfl (.of_eq (by cases n <;> cases m <;> cases s <;> cases c <;> cases v <;> simp_all [wantF])) (.bool _) ⟨rfl, rfl⟩
  ·
    refine mcalls_body Try.func5 rfl Try.ntmps5 (Nat.le_of_ble_eq_true rfl) ?_
    refine mwp_seq ?_
    refine mwp_region rfl ?_
    refine wOps_op rfl (op_assign rfl rfl ?_)
    refine wOps_nil ?_
    refine mwp_seq ?_
    refine mwp_seq ?_
    refine mwp_region rfl ?_
    refine wOps_op rfl (op_call rfl rfl rfl co8 ((knownV_spec _).mono ?_))
    rintro _ _ ⟨rfl, rfl⟩
    refine wOps_op rfl (op_not rfl rfl ?_)
    refine wOps_nil ?_
    refine mwp_cond_f rfl (rfl) ?_
    refine mwp_skip ?_
    refine mwp_seq ?_
    refine mwp_region rfl ?_
    refine wOps_op rfl (op_move rfl rfl ?_)
    refine wOps_op rfl (op_rem rfl rfl rfl (by decide) (rem8 h) ?_)
    refine wOps_op rfl (op_convInt rfl Try.underlying5 Try.underlying3 rfl (show IntKind.i64.wrap 1 = 1 from rfl) ?_)
    refine wOps_op rfl (op_arith rfl rfl rfl (show intArith .add .i64 1 1 = some 2 from rfl) ?_)
    refine wOps_op rfl (op_assign rfl rfl ?_)
    refine wOps_nil ?_
    refine mwp_seq ?_
    refine mwp_region rfl ?_
    refine wOps_op rfl (op_build rfl Try.underlying30 zm30 .nil (by kernel_rfl) ?_)
    refine wOps_op rfl (op_alloc' rfl zm30 rfl rfl ?_)
    refine wOps_op rfl (op_store' rfl rfl rfl rfl sz30 rfl rfl (Nat.le_of_ble_eq_true rfl) rfl ?_)
    refine wOps_nil ?_
    refine mwp_join (E := [(1, .bool n), (2, .bool m), (3, .bool s), (4, .bool c), (5, .bool v), (13, .int .i64 2), (14, .ref (S.length + 0) 0)]) (S ++ [.cells [cN n, .int .u64 0, .lst0, .lst0, .lst0]]) ?_ ?_
    ·
      refine mwp_seq ?_
      refine mwp_region rfl ?_
      refine wOps_op rfl (op_move rfl rfl ?_)
      refine wOps_nil ?_
      refine mwp_cond_split rfl (fun h24 => ?_) (fun h24 => ?_)
      · -- yes
        refine mwp_region rfl ?_
        refine wOps_op rfl (op_fieldAddr_ref rfl rfl fo30_0 ?_)
        refine wOps_op rfl (op_store' rfl rfl rfl rfl sz25 rfl rfl (Nat.le_of_ble_eq_true rfl) rfl ?_)
        refine wOps_nil ?_
        exact ⟨rfl, by rw [h24]; rfl, (.keep rfl (.keep rfl (.keep rfl (.keep rfl (.keep rfl (.keep rfl (.keep rfl .nil)))))))⟩
      · -- no
        refine mwp_skip ?_
        exact ⟨rfl, by rw [h24]; rfl, (.keep rfl (.keep rfl (.keep rfl (.keep rfl (.keep rfl (.keep rfl (.keep rfl .nil)))))))⟩
    ·
      refine mwp_join (E := [(1, .bool n), (2, .bool m), (3, .bool s), (4, .bool c), (5, .bool v), (13, .int .i64 2), (14, .ref (S.length + 0) 0)]) (S ++ [.cells [cN n, cN m, .lst0, .lst0, .lst0]]) ?_ ?_
      ·
        refine mwp_seq ?_
        refine mwp_region rfl ?_
        refine wOps_op rfl (op_move rfl rfl ?_)
        refine wOps_nil ?_
        refine mwp_cond_split rfl (fun h26 => ?_) (fun h26 => ?_)
        · -- yes
          refine mwp_region rfl ?_
          refine wOps_op rfl (op_fieldAddr_ref rfl rfl fo30_1 ?_)
          refine wOps_op rfl (op_store' rfl rfl rfl rfl sz25 rfl rfl (Nat.le_of_ble_eq_true rfl) rfl ?_)
          refine wOps_nil ?_
          exact ⟨rfl, by rw [h26]; rfl, (.keep rfl (.keep rfl (.keep rfl (.keep rfl (.keep rfl (.keep rfl (.keep rfl .nil)))))))⟩
        · -- no
          refine mwp_skip ?_
          exact ⟨rfl, by rw [h26]; rfl, (.keep rfl (.keep rfl (.keep rfl (.keep rfl (.keep rfl (.keep rfl (.keep rfl .nil)))))))⟩
      ·
        refine mwp_join (E := [(1, .bool n), (2, .bool m), (3, .bool s), (4, .bool c), (5, .bool v), (13, .int .i64 2), (14, .ref (S.length + 0) 0)]) (S ++ [.cells [cN n, cN m, cS s, .lst0, .lst0]]) ?_ ?_
        ·
          refine mwp_seq ?_
          refine mwp_region rfl ?_
          refine wOps_op rfl (op_move rfl rfl ?_)
          refine wOps_nil ?_
          refine mwp_cond_split rfl (fun h28 => ?_) (fun h28 => ?_)
          · -- yes
            refine mwp_region rfl ?_
            refine wOps_op rfl (op_buildSlice rfl Try.underlying26 el9 rfl rfl (by decide) (by decide) rfl rfl ?_)
            refine wOps_op rfl (op_fieldAddr_ref rfl rfl fo30_2 ?_)
            refine wOps_op rfl (op_store' rfl rfl rfl rfl sz26 rfl rfl (Nat.le_of_ble_eq_true rfl) rfl ?_)
            refine wOps_nil ?_
            exact ⟨rfl, by rw [h28]; rfl, (.keep rfl (.keep rfl (.keep rfl (.keep rfl (.keep rfl (.keep rfl (.keep rfl .nil)))))))⟩
          · -- no
            refine mwp_skip ?_
            exact ⟨rfl, by rw [h28]; rfl, (.keep rfl (.keep rfl (.keep rfl (.keep rfl (.keep rfl (.keep rfl (.keep rfl .nil)))))))⟩
        ·
          refine mwp_join (E := [(1, .bool n), (2, .bool m), (3, .bool s), (4, .bool c), (5, .bool v), (13, .int .i64 2), (14, .ref (S.length + 0) 0)]) (S ++ [.cells [cN n, cN m, cS s, cC c, .lst0]]) ?_ ?_
          ·
            refine mwp_seq ?_
            refine mwp_region rfl ?_
            refine wOps_op rfl (op_move rfl rfl ?_)
            refine wOps_nil ?_
            refine mwp_cond_split rfl (fun h31 => ?_) (fun h31 => ?_)
            · -- yes
              refine mwp_region rfl ?_
              refine wOps_op rfl (op_build rfl Try.underlying39 zm39 (.cons fo39_0 sz3 rfl rfl (Nat.le_of_ble_eq_true rfl) (.cons fo39_1 sz25 rfl rfl (Nat.le_of_ble_eq_true rfl) .nil)) (by kernel_rfl) ?_)
              refine wOps_op rfl (op_buildSlice rfl Try.underlying40 el39 rfl rfl (by decide) (by decide) rfl rfl ?_)
              refine wOps_op rfl (op_buildSlice rfl Try.underlying27 el40 rfl rfl (by decide) (by decide) rfl rfl ?_)
              refine wOps_op rfl (op_fieldAddr_ref rfl rfl fo30_3 ?_)
              refine wOps_op rfl (op_store' rfl rfl rfl rfl sz27 rfl rfl (Nat.le_of_ble_eq_true rfl) rfl ?_)
              refine wOps_nil ?_
              exact ⟨rfl, by rw [h31]; rfl, (.keep rfl (.keep rfl (.keep rfl (.keep rfl (.keep rfl (.keep rfl (.keep rfl .nil)))))))⟩
            · -- no
              refine mwp_skip ?_
              exact ⟨rfl, by rw [h31]; rfl, (.keep rfl (.keep rfl (.keep rfl (.keep rfl (.keep rfl (.keep rfl (.keep rfl .nil)))))))⟩
          ·
            refine mwp_join (E := [(1, .bool n), (2, .bool m), (3, .bool s), (4, .bool c), (5, .bool v), (13, .int .i64 2), (14, .ref (S.length + 0) 0)]) (S ++ [.cells [cN n, cN m, cS s, cC c, cW v]]) ?_ ?_
            ·
              refine mwp_seq ?_
              refine mwp_region rfl ?_
              refine wOps_op rfl (op_move rfl rfl ?_)
              refine wOps_nil ?_
              refine mwp_cond_split rfl (fun h36 => ?_) (fun h36 => ?_)
              · -- yes
                refine mwp_region rfl ?_
                refine wOps_op rfl (op_viewTo (y := encV vOne) (op_build rfl Try.underlying30 zm30 (.cons fo30_0 sz25 rfl rfl (Nat.le_of_ble_eq_true rfl) .nil) (by kernel_rfl) ⟨rfl, rfl⟩) (.agg (.cons (.refl _) (.cons (.refl _) (.cons (.nil 1) (.cons (.nil 1) (.cons (.nil 5) .nil)))))) ?_)
                refine wOps_op rfl (op_buildSlice rfl Try.underlying28 el30 rfl rfl (by decide) (by decide) rfl rfl ?_)
                refine wOps_op rfl (op_fieldAddr_ref rfl rfl fo30_4 ?_)
                refine wOps_op rfl (op_store' rfl rfl rfl rfl sz28 rfl rfl (Nat.le_of_ble_eq_true rfl) rfl ?_)
                refine wOps_nil ?_
                exact ⟨rfl, by rw [h36]; rfl, (.keep rfl (.keep rfl (.keep rfl (.keep rfl (.keep rfl (.keep rfl (.keep rfl .nil)))))))⟩
              · -- no
                refine mwp_skip ?_
                exact ⟨rfl, by rw [h36]; rfl, (.keep rfl (.keep rfl (.keep rfl (.keep rfl (.keep rfl (.keep rfl (.keep rfl .nil)))))))⟩
            ·
              refine mwp_seq ?_
              refine mwp_region rfl ?_
              refine wOps_op rfl (op_move rfl rfl ?_)
              refine wOps_op rfl (op_call rfl rfl rfl co20 (((of_spec 2 [] _).sub (.cons (.refl _) (.cons (.nil 2) .nil))).mono ?_))
              rintro _ _ ⟨rfl, rfl⟩
              refine wOps_op rfl (op_alloc' rfl zm24 rfl rfl ?_)
              refine wOps_op rfl (op_store' rfl rfl rfl rfl sz24 rfl rfl (Nat.le_of_ble_eq_true rfl) rfl ?_)
              refine wOps_op rfl (op_assign rfl rfl ?_)
              refine wOps_nil ?_
              refine mwp_seq ?_
              refine mwp_seq ?_
              refine mwp_region rfl ?_
              refine wOps_op rfl (op_move rfl rfl ?_)
              refine wOps_nil ?_
              refine mwp_block ?_
              refine mwp_seq ?_
              refine mwp_seq ?_
              refine mwp_region rfl ?_
              refine wOps_op rfl (op_cmp rfl rfl rfl rfl ?_)
              refine wOps_op rfl (op_assign rfl rfl ?_)
              refine wOps_nil ?_
              refine mwp_cond_f rfl (rfl) ?_
              refine mwp_region rfl ?_
              refine wOps_op rfl (op_cmp rfl rfl rfl rfl ?_)
              refine wOps_op rfl (op_assign rfl rfl ?_)
              refine wOps_nil ?_
              refine mwp_cond_t rfl (rfl) ?_
              refine mwp_region rfl ?_
              refine wOps_op rfl (op_move rfl rfl ?_)
              refine wOps_op rfl (op_not rfl rfl ?_)
              refine wOps_op rfl (op_move rfl rfl ?_)
              refine wOps_case (fun h48 => ?_) (fun h48 => ?_)
              ·
                refine wOps_op rfl (op_move rfl rfl ?_)
                refine wOps_op rfl (op_not rfl rfl ?_)
                refine wOps_op rfl (op_pick rfl rfl rfl ?_)
                refine wOps_op rfl (op_move rfl rfl ?_)
                refine wOps_case (fun h52 => ?_) (fun h52 => ?_)
                ·
                  refine wOps_op rfl (op_move rfl rfl ?_)
                  refine wOps_op rfl (op_not rfl rfl ?_)
                  refine wOps_op rfl (op_pick rfl rfl rfl ?_)
                  refine wOps_op rfl (op_move rfl rfl ?_)
                  refine wOps_case (fun h56 => ?_) (fun h56 => ?_)
                  ·
                    refine wOps_op rfl (op_move rfl rfl ?_)
                    refine wOps_op rfl (op_not rfl rfl ?_)
                    refine wOps_op rfl (op_pick rfl rfl rfl ?_)
                    refine wOps_op rfl (op_assign rfl rfl ?_)
                    refine wOps_nil ?_
                    refine mwp_seq ?_
                    refine mwp_region rfl ?_
                    refine wOps_op rfl (op_load' rfl rfl rfl ta24 rfl ?_)
                    refine wOps_op rfl (op_load' rfl rfl rfl ta30 rfl ?_)
                    refine wOps_op rfl (op_call rfl rfl rfl co9 (((valIs_spec (tyK 2) (vX n m s c v) (ok_vX n m s c v) _).sub (.cons (.refl _) (.cons (sub_parts n m s c v) .nil))).mono ?_))
                    rintro _ _ ⟨rfl, rfl⟩
                    rw [parts_law (by omega)]
                    refine wOps_op rfl (op_move rfl rfl ?_)
                    refine wOps_op rfl (op_booleq rfl Try.underlying4 rfl rfl ?_)
                    refine wOps_op rfl (op_assign rfl rfl ?_)
                    refine wOps_nil ?_
                    refine mwp_ret ?_
                    exact ret_tmp (.inr rfl) Try.results5 rfl (.of_eq (by cases n <;> cases m <;> cases s <;> cases c <;> cases v <;> simp_all [wantF])) (.bool _) ⟨rfl, rfl⟩
                  ·
                    refine wOps_skip rfl ?_
                    refine wOps_skip rfl ?_
                    refine wOps_op rfl (op_pick rfl rfl rfl ?_)
                    refine wOps_op rfl (op_assign rfl rfl ?_)
                    refine wOps_nil ?_
                    refine mwp_seq ?_
                    refine mwp_region rfl ?_
                    refine wOps_op rfl (op_load' rfl rfl rfl ta24 rfl ?_)
                    refine wOps_op rfl (op_load' rfl rfl rfl ta30 rfl ?_)
                    refine wOps_op rfl (op_call rfl rfl rfl co9 (((valIs_spec (tyK 2) (vX n m s c v) (ok_vX n m s c v) _).sub (.cons (.refl _) (.cons (sub_parts n m s c v) .nil))).mono ?_))
                    rintro _ _ ⟨rfl, rfl⟩
                    rw [parts_law (by omega)]
                    refine wOps_op rfl (op_move rfl rfl ?_)
                    refine wOps_op rfl (op_booleq rfl Try.underlying4 rfl rfl ?_)
                    refine wOps_op rfl (op_assign rfl rfl ?_)
                    refine wOps_nil ?_
                    refine mwp_ret ?_
                    exact ret_tmp (.inr rfl) Try.results5 rfl (.of_eq (by cases n <;> cases m <;> cases s <;> cases c <;> cases v <;> simp_all [wantF])) (.bool _) ⟨rfl, rfl⟩
                ·
                  refine wOps_skip rfl ?_
                  refine wOps_skip rfl ?_
                  refine wOps_op rfl (op_pick rfl rfl rfl ?_)
                  refine wOps_op rfl (op_move rfl rfl ?_)
                  refine wOps_skip rfl ?_
                  refine wOps_skip rfl ?_
                  refine wOps_op rfl (op_pick rfl rfl rfl ?_)
                  refine wOps_op rfl (op_assign rfl rfl ?_)
                  refine wOps_nil ?_
                  refine mwp_seq ?_
                  refine mwp_region rfl ?_
                  refine wOps_op rfl (op_load' rfl rfl rfl ta24 rfl ?_)
                  refine wOps_op rfl (op_load' rfl rfl rfl ta30 rfl ?_)
                  refine wOps_op rfl (op_call rfl rfl rfl co9 (((valIs_spec (tyK 2) (vX n m s c v) (ok_vX n m s c v) _).sub (.cons (.refl _) (.cons (sub_parts n m s c v) .nil))).mono ?_))
                  rintro _ _ ⟨rfl, rfl⟩
                  rw [parts_law (by omega)]
                  refine wOps_op rfl (op_move rfl rfl ?_)
                  refine wOps_op rfl (op_booleq rfl Try.underlying4 rfl rfl ?_)
                  refine wOps_op rfl (op_assign rfl rfl ?_)
                  refine wOps_nil ?_
                  refine mwp_ret ?_
                  exact ret_tmp (.inr rfl) Try.results5 rfl (.of_eq (by cases n <;> cases m <;> cases s <;> cases c <;> cases v <;> simp_all [wantF])) (.bool _) ⟨rfl, rfl⟩
              ·
                refine wOps_skip rfl ?_
                refine wOps_skip rfl ?_
                refine wOps_op rfl (op_pick rfl rfl rfl ?_)
                refine wOps_op rfl (op_move rfl rfl ?_)
                refine wOps_skip rfl ?_
                refine wOps_skip rfl ?_
                refine wOps_op rfl (op_pick rfl rfl rfl ?_)
                refine wOps_op rfl (op_move rfl rfl ?_)
                refine wOps_skip rfl ?_
                refine wOps_skip rfl ?_
                refine wOps_op rfl (op_pick rfl rfl rfl ?_)
                refine wOps_op rfl (op_assign rfl rfl ?_)
                refine wOps_nil ?_
                refine mwp_seq ?_
                refine mwp_region rfl ?_
                refine wOps_op rfl (op_load' rfl rfl rfl ta24 rfl ?_)
                refine wOps_op rfl (op_load' rfl rfl rfl ta30 rfl ?_)
                refine wOps_op rfl (op_call rfl rfl rfl co9 (((valIs_spec (tyK 2) (vX n m s c v) (ok_vX n m s c v) _).sub (.cons (.refl _) (.cons (sub_parts n m s c v) .nil))).mono ?_))
                rintro _ _ ⟨rfl, rfl⟩
                rw [parts_law (by omega)]
                refine wOps_op rfl (op_move rfl rfl ?_)
                refine wOps_op rfl (op_booleq rfl Try.underlying4 rfl rfl ?_)
                refine wOps_op rfl (op_assign rfl rfl ?_)
                refine wOps_nil ?_
                refine mwp_ret ?_
                exact ret_tmp (.inr rfl) Try.results5 rfl (.of_eq (by cases n <;> cases m <;> cases s <;> cases c <;> cases v <;> simp_all [wantF])) (.bool _) ⟨rfl, rfl⟩
  ·
    refine mcalls_body Try.func5 rfl Try.ntmps5 (Nat.le_of_ble_eq_true rfl) ?_
    refine mwp_seq ?_
    refine mwp_region rfl ?_
    refine wOps_op rfl (op_assign rfl rfl ?_)
    refine wOps_nil ?_
    refine mwp_seq ?_
    refine mwp_seq ?_
    refine mwp_region rfl ?_
    refine wOps_op rfl (op_call rfl rfl rfl co8 ((knownV_spec _).mono ?_))
    rintro _ _ ⟨rfl, rfl⟩
    refine wOps_op rfl (op_not rfl rfl ?_)
    refine wOps_nil ?_
    refine mwp_cond_f rfl (rfl) ?_
    refine mwp_skip ?_
    refine mwp_seq ?_
    refine mwp_region rfl ?_
    refine wOps_op rfl (op_move rfl rfl ?_)
    refine wOps_op rfl (op_rem rfl rfl rfl (by decide) (rem8 h) ?_)
    refine wOps_op rfl (op_convInt rfl Try.underlying5 Try.underlying3 rfl (show IntKind.i64.wrap 2 = 2 from rfl) ?_)
    refine wOps_op rfl (op_arith rfl rfl rfl (show intArith .add .i64 2 1 = some 3 from rfl) ?_)
    refine wOps_op rfl (op_assign rfl rfl ?_)
    refine wOps_nil ?_
    refine mwp_seq ?_
    refine mwp_region rfl ?_
    refine wOps_op rfl (op_build rfl Try.underlying30 zm30 .nil (by kernel_rfl) ?_)
    refine wOps_op rfl (op_alloc' rfl zm30 rfl rfl ?_)
    refine wOps_op rfl (op_store' rfl rfl rfl rfl sz30 rfl rfl (Nat.le_of_ble_eq_true rfl) rfl ?_)
    refine wOps_nil ?_
    refine mwp_join (E := [(1, .bool n), (2, .bool m), (3, .bool s), (4, .bool c), (5, .bool v), (13, .int .i64 3), (14, .ref (S.length + 0) 0)]) (S ++ [.cells [cN n, .int .u64 0, .lst0, .lst0, .lst0]]) ?_ ?_
    ·
      refine mwp_seq ?_
      refine mwp_region rfl ?_
      refine wOps_op rfl (op_move rfl rfl ?_)
      refine wOps_nil ?_
      refine mwp_cond_split rfl (fun h24 => ?_) (fun h24 => ?_)
      · -- yes
        refine mwp_region rfl ?_
        refine wOps_op rfl (op_fieldAddr_ref rfl rfl fo30_0 ?_)
        refine wOps_op rfl (op_store' rfl rfl rfl rfl sz25 rfl rfl (Nat.le_of_ble_eq_true rfl) rfl ?_)
        refine wOps_nil ?_
        exact ⟨rfl, by rw [h24]; rfl, (.keep rfl (.keep rfl (.keep rfl (.keep rfl (.keep rfl (.keep rfl (.keep rfl .nil)))))))⟩
      · -- no
        refine mwp_skip ?_
        exact ⟨rfl, by rw [h24]; rfl, (.keep rfl (.keep rfl (.keep rfl (.keep rfl (.keep rfl (.keep rfl (.keep rfl .nil)))))))⟩
    ·
      refine mwp_join (E := [(1, .bool n), (2, .bool m), (3, .bool s), (4, .bool c), (5, .bool v), (13, .int .i64 3), (14, .ref (S.length + 0) 0)]) (S ++ [.cells [cN n, cN m, .lst0, .lst0, .lst0]]) ?_ ?_
      ·
        refine mwp_seq ?_
        refine mwp_region rfl ?_
        refine wOps_op rfl (op_move rfl rfl ?_)
        refine wOps_nil ?_
        refine mwp_cond_split rfl (fun h26 => ?_) (fun h26 => ?_)
        · -- yes
          refine mwp_region rfl ?_
          refine wOps_op rfl (op_fieldAddr_ref rfl rfl fo30_1 ?_)
          refine wOps_op rfl (op_store' rfl rfl rfl rfl sz25 rfl rfl (Nat.le_of_ble_eq_true rfl) rfl ?_)
          refine wOps_nil ?_
          exact ⟨rfl, by rw [h26]; rfl, (.keep rfl (.keep rfl (.keep rfl (.keep rfl (.keep rfl (.keep rfl (.keep rfl .nil)))))))⟩
        · -- no
          refine mwp_skip ?_
          exact ⟨rfl, by rw [h26]; rfl, (.keep rfl (.keep rfl (.keep rfl (.keep rfl (.keep rfl (.keep rfl (.keep rfl .nil)))))))⟩
      ·
        refine mwp_join (E := [(1, .bool n), (2, .bool m), (3, .bool s), (4, .bool c), (5, .bool v), (13, .int .i64 3), (14, .ref (S.length + 0) 0)]) (S ++ [.cells [cN n, cN m, cS s, .lst0, .lst0]]) ?_ ?_
        ·
          refine mwp_seq ?_
          refine mwp_region rfl ?_
          refine wOps_op rfl (op_move rfl rfl ?_)
          refine wOps_nil ?_
          refine mwp_cond_split rfl (fun h28 => ?_) (fun h28 => ?_)
          · -- yes
            refine mwp_region rfl ?_
            refine wOps_op rfl (op_buildSlice rfl Try.underlying26 el9 rfl rfl (by decide) (by decide) rfl rfl ?_)
            refine wOps_op rfl (op_fieldAddr_ref rfl rfl fo30_2 ?_)
            refine wOps_op rfl (op_store' rfl rfl rfl rfl sz26 rfl rfl (Nat.le_of_ble_eq_true rfl) rfl ?_)
            refine wOps_nil ?_
            exact ⟨rfl, by rw [h28]; rfl, (.keep rfl (.keep rfl (.keep rfl (.keep rfl (.keep rfl (.keep rfl (.keep rfl .nil)))))))⟩
          · -- no
            refine mwp_skip ?_
            exact ⟨rfl, by rw [h28]; rfl, (.keep rfl (.keep rfl (.keep rfl (.keep rfl (.keep rfl (.keep rfl (.keep rfl .nil)))))))⟩
        ·
          refine mwp_join (E := [(1, .bool n), (2, .bool m), (3, .bool s), (4, .bool c), (5, .bool v), (13, .int .i64 3), (14, .ref (S.length + 0) 0)]) (S ++ [.cells [cN n, cN m, cS s, cC c, .lst0]]) ?_ ?_
          ·
            refine mwp_seq ?_
            refine mwp_region rfl ?_
            refine wOps_op rfl (op_move rfl rfl ?_)
            refine wOps_nil ?_
            refine mwp_cond_split rfl (fun h31 => ?_) (fun h31 => ?_)
            · -- yes
              refine mwp_region rfl ?_
              refine wOps_op rfl (op_build rfl Try.underlying39 zm39 (.cons fo39_0 sz3 rfl rfl (Nat.le_of_ble_eq_true rfl) (.cons fo39_1 sz25 rfl rfl (Nat.le_of_ble_eq_true rfl) .nil)) (by kernel_rfl) ?_)
              refine wOps_op rfl (op_buildSlice rfl Try.underlying40 el39 rfl rfl (by decide) (by decide) rfl rfl ?_)
              refine wOps_op rfl (op_buildSlice rfl Try.underlying27 el40 rfl rfl (by decide) (by decide) rfl rfl ?_)
              refine wOps_op rfl (op_fieldAddr_ref rfl rfl fo30_3 ?_)
              refine wOps_op rfl (op_store' rfl rfl rfl rfl sz27 rfl rfl (Nat.le_of_ble_eq_true rfl) rfl ?_)
              refine wOps_nil ?_
              exact ⟨rfl, by rw [h31]; rfl, (.keep rfl (.keep rfl (.keep rfl (.keep rfl (.keep rfl (.keep rfl (.keep rfl .nil)))))))⟩
            · -- no
              refine mwp_skip ?_
              exact ⟨rfl, by rw [h31]; rfl, (.keep rfl (.keep rfl (.keep rfl (.keep rfl (.keep rfl (.keep rfl (.keep rfl .nil)))))))⟩
          ·
            refine mwp_join (E := [(1, .bool n), (2, .bool m), (3, .bool s), (4, .bool c), (5, .bool v), (13, .int .i64 3), (14, .ref (S.length + 0) 0)]) (S ++ [.cells [cN n, cN m, cS s, cC c, cW v]]) ?_ ?_
            ·
              refine mwp_seq ?_
              refine mwp_region rfl ?_
              refine wOps_op rfl (op_move rfl rfl ?_)
              refine wOps_nil ?_
              refine mwp_cond_split rfl (fun h36 => ?_) (fun h36 => ?_)
              · -- yes
                refine mwp_region rfl ?_
                refine wOps_op rfl (op_viewTo (y := encV vOne) (op_build rfl Try.underlying30 zm30 (.cons fo30_0 sz25 rfl rfl (Nat.le_of_ble_eq_true rfl) .nil) (by kernel_rfl) ⟨rfl, rfl⟩) (.agg (.cons (.refl _) (.cons (.refl _) (.cons (.nil 1) (.cons (.nil 1) (.cons (.nil 5) .nil)))))) ?_)
                refine wOps_op rfl (op_buildSlice rfl Try.underlying28 el30 rfl rfl (by decide) (by decide) rfl rfl ?_)
                refine wOps_op rfl (op_fieldAddr_ref rfl rfl fo30_4 ?_)
                refine wOps_op rfl (op_store' rfl rfl rfl rfl sz28 rfl rfl (Nat.le_of_ble_eq_true rfl) rfl ?_)
                refine wOps_nil ?_
                exact ⟨rfl, by rw [h36]; rfl, (.keep rfl (.keep rfl (.keep rfl (.keep rfl (.keep rfl (.keep rfl (.keep rfl .nil)))))))⟩
              · -- no
                refine mwp_skip ?_
                exact ⟨rfl, by rw [h36]; rfl, (.keep rfl (.keep rfl (.keep rfl (.keep rfl (.keep rfl (.keep rfl (.keep rfl .nil)))))))⟩
            ·
              refine mwp_seq ?_
              refine mwp_region rfl ?_
              refine wOps_op rfl (op_move rfl rfl ?_)
              refine wOps_op rfl (op_call rfl rfl rfl co20 (((of_spec 3 [] _).sub (.cons (.refl _) (.cons (.nil 2) .nil))).mono ?_))
              rintro _ _ ⟨rfl, rfl⟩
              refine wOps_op rfl (op_alloc' rfl zm24 rfl rfl ?_)
              refine wOps_op rfl (op_store' rfl rfl rfl rfl sz24 rfl rfl (Nat.le_of_ble_eq_true rfl) rfl ?_)
              refine wOps_op rfl (op_assign rfl rfl ?_)
              refine wOps_nil ?_
              refine mwp_seq ?_
              refine mwp_seq ?_
              refine mwp_region rfl ?_
              refine wOps_op rfl (op_move rfl rfl ?_)
              refine wOps_nil ?_
              refine mwp_block ?_
              refine mwp_seq ?_
              refine mwp_seq ?_
              refine mwp_region rfl ?_
              refine wOps_op rfl (op_cmp rfl rfl rfl rfl ?_)
              refine wOps_op rfl (op_assign rfl rfl ?_)
              refine wOps_nil ?_
              refine mwp_cond_f rfl (rfl) ?_
              refine mwp_region rfl ?_
              refine wOps_op rfl (op_cmp rfl rfl rfl rfl ?_)
              refine wOps_op rfl (op_assign rfl rfl ?_)
              refine wOps_nil ?_
              refine mwp_cond_f rfl (rfl) ?_
              refine mwp_seq ?_
              refine mwp_region rfl ?_
              refine wOps_op rfl (op_cmp rfl rfl rfl rfl ?_)
              refine wOps_op rfl (op_assign rfl rfl ?_)
              refine wOps_nil ?_
              refine mwp_cond_t rfl (rfl) ?_
              refine mwp_region rfl ?_
              refine wOps_op rfl (op_move rfl rfl ?_)
              refine wOps_op rfl (op_not rfl rfl ?_)
              refine wOps_op rfl (op_move rfl rfl ?_)
              refine wOps_case (fun h64 => ?_) (fun h64 => ?_)
              ·
                refine wOps_op rfl (op_move rfl rfl ?_)
                refine wOps_op rfl (op_not rfl rfl ?_)
                refine wOps_op rfl (op_pick rfl rfl rfl ?_)
                refine wOps_op rfl (op_move rfl rfl ?_)
                refine wOps_case (fun h68 => ?_) (fun h68 => ?_)
                ·
                  refine wOps_op rfl (op_move rfl rfl ?_)
                  refine wOps_op rfl (op_not rfl rfl ?_)
                  refine wOps_op rfl (op_pick rfl rfl rfl ?_)
                  refine wOps_op rfl (op_move rfl rfl ?_)
                  refine wOps_case (fun h72 => ?_) (fun h72 => ?_)
                  ·
                    refine wOps_op rfl (op_move rfl rfl ?_)
                    refine wOps_op rfl (op_not rfl rfl ?_)
                    refine wOps_op rfl (op_pick rfl rfl rfl ?_)
                    refine wOps_op rfl (op_assign rfl rfl ?_)
                    refine wOps_nil ?_
                    refine mwp_seq ?_
                    refine mwp_region rfl ?_
                    refine wOps_op rfl (op_load' rfl rfl rfl ta24 rfl ?_)
                    refine wOps_op rfl (op_load' rfl rfl rfl ta30 rfl ?_)
                    refine wOps_op rfl (op_call rfl rfl rfl co9 (((valIs_spec (tyK 3) (vX n m s c v) (ok_vX n m s c v) _).sub (.cons (.refl _) (.cons (sub_parts n m s c v) .nil))).mono ?_))
                    rintro _ _ ⟨rfl, rfl⟩
                    rw [parts_law (by omega)]
                    refine wOps_op rfl (op_move rfl rfl ?_)
                    refine wOps_op rfl (op_booleq rfl Try.underlying4 rfl rfl ?_)
                    refine wOps_op rfl (op_assign rfl rfl ?_)
                    refine wOps_nil ?_
                    refine mwp_ret ?_
                    exact ret_tmp (.inr rfl) Try.results5 rfl (.of_eq (by cases n <;> cases m <;> cases s <;> cases c <;> cases v <;> simp_all [wantF])) (.bool _) ⟨rfl, rfl⟩
                  ·
                    refine wOps_skip rfl ?_
                    refine wOps_skip rfl ?_
                    refine wOps_op rfl (op_pick rfl rfl rfl ?_)
                    refine wOps_op rfl (op_assign rfl rfl ?_)
                    refine wOps_nil ?_
                    refine mwp_seq ?_
                    refine mwp_region rfl ?_
                    refine wOps_op rfl (op_load' rfl rfl rfl ta24 rfl ?_)
                    refine wOps_op rfl (op_load' rfl rfl rfl ta30 rfl ?_)
                    refine wOps_op rfl (op_call rfl rfl rfl co9 (((valIs_spec (tyK 3) (vX n m s c v) (ok_vX n m s c v) _).sub (.cons (.refl _) (.cons (sub_parts n m s c v) .nil))).mono ?_))
                    rintro _ _ ⟨rfl, rfl⟩
                    rw [parts_law (by omega)]
                    refine wOps_op rfl (op_move rfl rfl ?_)
                    refine wOps_op rfl (op_booleq rfl Try.underlying4 rfl rfl ?_)
                    refine wOps_op rfl (op_assign rfl rfl ?_)
                    refine wOps_nil ?_
                    refine mwp_ret ?_
                    exact ret_tmp (.inr rfl) Try.results5 rfl (.of_eq (by cases n <;> cases m <;> cases s <;> cases c <;> cases v <;> simp_all [wantF])) (.bool _) ⟨rfl, rfl⟩
                ·
                  refine wOps_skip rfl ?_
                  refine wOps_skip rfl ?_
                  refine wOps_op rfl (op_pick rfl rfl rfl ?_)
                  refine wOps_op rfl (op_move rfl rfl ?_)
                  refine wOps_skip rfl ?_
                  refine wOps_skip rfl ?_
                  refine wOps_op rfl (op_pick rfl rfl rfl ?_)
                  refine wOps_op rfl (op_assign rfl rfl ?_)
                  refine wOps_nil ?_
                  refine mwp_seq ?_
                  refine mwp_region rfl ?_
                  refine wOps_op rfl (op_load' rfl rfl rfl ta24 rfl ?_)
                  refine wOps_op rfl (op_load' rfl rfl rfl ta30 rfl ?_)
                  refine wOps_op rfl (op_call rfl rfl rfl co9 (((valIs_spec (tyK 3) (vX n m s c v) (ok_vX n m s c v) _).sub (.cons (.refl _) (.cons (sub_parts n m s c v) .nil))).mono ?_))
                  rintro _ _ ⟨rfl, rfl⟩
                  rw [parts_law (by omega)]
                  refine wOps_op rfl (op_move rfl rfl ?_)
                  refine wOps_op rfl (op_booleq rfl Try.underlying4 rfl rfl ?_)
                  refine wOps_op rfl (op_assign rfl rfl ?_)
                  refine wOps_nil ?_
                  refine mwp_ret ?_
                  exact ret_tmp (.inr rfl) Try.results5 rfl (.of_eq (by cases n <;> cases m <;> cases s <;> cases c <;> cases v <;> simp_all [wantF])) (.bool _) ⟨rfl, rfl⟩
              ·
                refine wOps_skip rfl ?_
                refine wOps_skip rfl ?_
                refine wOps_op rfl (op_pick rfl rfl rfl ?_)
                refine wOps_op rfl (op_move rfl rfl ?_)
                refine wOps_skip rfl ?_
                refine wOps_skip rfl ?_
                refine wOps_op rfl (op_pick rfl rfl rfl ?_)
                refine wOps_op rfl (op_move rfl rfl ?_)
                refine wOps_skip rfl ?_
                refine wOps_skip rfl ?_
                refine wOps_op rfl (op_pick rfl rfl rfl ?_)
                refine wOps_op rfl (op_assign rfl rfl ?_)
                refine wOps_nil ?_
                refine mwp_seq ?_
                refine mwp_region rfl ?_
                refine wOps_op rfl (op_load' rfl rfl rfl ta24 rfl ?_)
                refine wOps_op rfl (op_load' rfl rfl rfl ta30 rfl ?_)
                refine wOps_op rfl (op_call rfl rfl rfl co9 (((valIs_spec (tyK 3) (vX n m s c v) (ok_vX n m s c v) _).sub (.cons (.refl _) (.cons (sub_parts n m s c v) .nil))).mono ?_))
                rintro _ _ ⟨rfl, rfl⟩
                rw [parts_law (by omega)]
                refine wOps_op rfl (op_move rfl rfl ?_)
                refine wOps_op rfl (op_booleq rfl Try.underlying4 rfl rfl ?_)
                refine wOps_op rfl (op_assign rfl rfl ?_)
                refine wOps_nil ?_
                refine mwp_ret ?_
                exact ret_tmp (.inr rfl) Try.results5 rfl (.of_eq (by cases n <;> cases m <;> cases s <;> cases c <;> cases v <;> simp_all [wantF])) (.bool _) ⟨rfl, rfl⟩
  ·
    refine mcalls_body Try.func5 rfl Try.ntmps5 (Nat.le_of_ble_eq_true rfl) ?_
    refine mwp_seq ?_
    refine mwp_region rfl ?_
    refine wOps_op rfl (op_assign rfl rfl ?_)
    refine wOps_nil ?_
    refine mwp_seq ?_
    refine mwp_seq ?_
    refine mwp_region rfl ?_
    refine wOps_op rfl (op_call rfl rfl rfl co8 ((knownV_spec _).mono ?_))
    rintro _ _ ⟨rfl, rfl⟩
    refine wOps_op rfl (op_not rfl rfl ?_)
    refine wOps_nil ?_
    refine mwp_cond_f rfl (rfl) ?_
    refine mwp_skip ?_
    refine mwp_seq ?_
    refine mwp_region rfl ?_
    refine wOps_op rfl (op_move rfl rfl ?_)
    refine wOps_op rfl (op_rem rfl rfl rfl (by decide) (rem8 h) ?_)
    refine wOps_op rfl (op_convInt rfl Try.underlying5 Try.underlying3 rfl (show IntKind.i64.wrap 3 = 3 from rfl) ?_)
    refine wOps_op rfl (op_arith rfl rfl rfl (show intArith .add .i64 3 1 = some 4 from rfl) ?_)
    refine wOps_op rfl (op_assign rfl rfl ?_)
    refine wOps_nil ?_
    refine mwp_seq ?_
    refine mwp_region rfl ?_
    refine wOps_op rfl (op_build rfl Try.underlying30 zm30 .nil (by kernel_rfl) ?_)
    refine wOps_op rfl (op_alloc' rfl zm30 rfl rfl ?_)
    refine wOps_op rfl (op_store' rfl rfl rfl rfl sz30 rfl rfl (Nat.le_of_ble_eq_true rfl) rfl ?_)
    refine wOps_nil ?_
    refine mwp_join (E := [(1, .bool n), (2, .bool m), (3, .bool s), (4, .bool c), (5, .bool v), (13, .int .i64 4), (14, .ref (S.length + 0) 0)]) (S ++ [.cells [cN n, .int .u64 0, .lst0, .lst0, .lst0]]) ?_ ?_
    ·
      refine mwp_seq ?_
      refine mwp_region rfl ?_
      refine wOps_op rfl (op_move rfl rfl ?_)
      refine wOps_nil ?_
      refine mwp_cond_split rfl (fun h24 => ?_) (fun h24 => ?_)
      · -- yes
        refine mwp_region rfl ?_
        refine wOps_op rfl (op_fieldAddr_ref rfl rfl fo30_0 ?_)
        refine wOps_op rfl (op_store' rfl rfl rfl rfl sz25 rfl rfl (Nat.le_of_ble_eq_true rfl) rfl ?_)
        refine wOps_nil ?_
        exact ⟨rfl, by rw [h24]; rfl, (.keep rfl (.keep rfl (.keep rfl (.keep rfl (.keep rfl (.keep rfl (.keep rfl .nil)))))))⟩
      · -- no
        refine mwp_skip ?_
        exact ⟨rfl, by rw [h24]; rfl, (.keep rfl (.keep rfl (.keep rfl (.keep rfl (.keep rfl (.keep rfl (.keep rfl .nil)))))))⟩
    ·
      refine mwp_join (E := [(1, .bool n), (2, .bool m), (3, .bool s), (4, .bool c), (5, .bool v), (13, .int .i64 4), (14, .ref (S.length + 0) 0)]) (S ++ [.cells [cN n, cN m, .lst0, .lst0, .lst0]]) ?_ ?_
      ·
        refine mwp_seq ?_
        refine mwp_region rfl ?_
        refine wOps_op rfl (op_move rfl rfl ?_)
        refine wOps_nil ?_
        refine mwp_cond_split rfl (fun h26 => ?_) (fun h26 => ?_)
        · -- yes
          refine mwp_region rfl ?_
          refine wOps_op rfl (op_fieldAddr_ref rfl rfl fo30_1 ?_)
          refine wOps_op rfl (op_store' rfl rfl rfl rfl sz25 rfl rfl (Nat.le_of_ble_eq_true rfl) rfl ?_)
          refine wOps_nil ?_
          exact ⟨rfl, by rw [h26]; rfl, (.keep rfl (.keep rfl (.keep rfl (.keep rfl (.keep rfl (.keep rfl (.keep rfl .nil)))))))⟩
        · -- no
          refine mwp_skip ?_
          exact ⟨rfl, by rw [h26]; rfl, (.keep rfl (.keep rfl (.keep rfl (.keep rfl (.keep rfl (.keep rfl (.keep rfl .nil)))))))⟩
      ·
        refine mwp_join (E := [(1, .bool n), (2, .bool m), (3, .bool s), (4, .bool c), (5, .bool v), (13, .int .i64 4), (14, .ref (S.length + 0) 0)]) (S ++ [.cells [cN n, cN m, cS s, .lst0, .lst0]]) ?_ ?_
        ·
          refine mwp_seq ?_
          refine mwp_region rfl ?_
          refine wOps_op rfl (op_move rfl rfl ?_)
          refine wOps_nil ?_
          refine mwp_cond_split rfl (fun h28 => ?_) (fun h28 => ?_)
          · -- yes
            refine mwp_region rfl ?_
            refine wOps_op rfl (op_buildSlice rfl Try.underlying26 el9 rfl rfl (by decide) (by decide) rfl rfl ?_)
            refine wOps_op rfl (op_fieldAddr_ref rfl rfl fo30_2 ?_)
            refine wOps_op rfl (op_store' rfl rfl rfl rfl sz26 rfl rfl (Nat.le_of_ble_eq_true rfl) rfl ?_)
            refine wOps_nil ?_
            exact ⟨rfl, by rw [h28]; rfl, (.keep rfl (.keep rfl (.keep rfl (.keep rfl (.keep rfl (.keep rfl (.keep rfl .nil)))))))⟩
          · -- no
            refine mwp_skip ?_
            exact ⟨rfl, by rw [h28]; rfl, (.keep rfl (.keep rfl (.keep rfl (.keep rfl (.keep rfl (.keep rfl (.keep rfl .nil)))))))⟩
        ·
          refine mwp_join (E := [(1, .bool n), (2, .bool m), (3, .bool s), (4, .bool c), (5, .bool v), (13, .int .i64 4), (14, .ref (S.length + 0) 0)]) (S ++ [.cells [cN n, cN m, cS s, cC c, .lst0]]) ?_ ?_
          ·
            refine mwp_seq ?_
            refine mwp_region rfl ?_
            refine wOps_op rfl (op_move rfl rfl ?_)
            refine wOps_nil ?_
            refine mwp_cond_split rfl (fun h31 => ?_) (fun h31 => ?_)
            · -- yes
              refine mwp_region rfl ?_
              refine wOps_op rfl (op_build rfl Try.underlying39 zm39 (.cons fo39_0 sz3 rfl rfl (Nat.le_of_ble_eq_true rfl) (.cons fo39_1 sz25 rfl rfl (Nat.le_of_ble_eq_true rfl) .nil)) (by kernel_rfl) ?_)
              refine wOps_op rfl (op_buildSlice rfl Try.underlying40 el39 rfl rfl (by decide) (by decide) rfl rfl ?_)
              refine wOps_op rfl (op_buildSlice rfl Try.underlying27 el40 rfl rfl (by decide) (by decide) rfl rfl ?_)
              refine wOps_op rfl (op_fieldAddr_ref rfl rfl fo30_3 ?_)
              refine wOps_op rfl (op_store' rfl rfl rfl rfl sz27 rfl rfl (Nat.le_of_ble_eq_true rfl) rfl ?_)
              refine wOps_nil ?_
              exact ⟨rfl, by rw [h31]; rfl, (.keep rfl (.keep rfl (.keep rfl (.keep rfl (.keep rfl (.keep rfl (.keep rfl .nil)))))))⟩
            · -- no
              refine mwp_skip ?_
              exact ⟨rfl, by rw [h31]; rfl, (.keep rfl (.keep rfl (.keep rfl (.keep rfl (.keep rfl (.keep rfl (.keep rfl .nil)))))))⟩
          ·
            refine mwp_join (E := [(1, .bool n), (2, .bool m), (3, .bool s), (4, .bool c), (5, .bool v), (13, .int .i64 4), (14, .ref (S.length + 0) 0)]) (S ++ [.cells [cN n, cN m, cS s, cC c, cW v]]) ?_ ?_
            ·
              refine mwp_seq ?_
              refine mwp_region rfl ?_
              refine wOps_op rfl (op_move rfl rfl ?_)
              refine wOps_nil ?_
              refine mwp_cond_split rfl (fun h36 => ?_) (fun h36 => ?_)
              · -- yes
                refine mwp_region rfl ?_
                refine wOps_op rfl (op_viewTo (y := encV vOne) (op_build rfl Try.underlying30 zm30 (.cons fo30_0 sz25 rfl rfl (Nat.le_of_ble_eq_true rfl) .nil) (by kernel_rfl) ⟨rfl, rfl⟩) (.agg (.cons (.refl _) (.cons (.refl _) (.cons (.nil 1) (.cons (.nil 1) (.cons (.nil 5) .nil)))))) ?_)
                refine wOps_op rfl (op_buildSlice rfl Try.underlying28 el30 rfl rfl (by decide) (by decide) rfl rfl ?_)
                refine wOps_op rfl (op_fieldAddr_ref rfl rfl fo30_4 ?_)
                refine wOps_op rfl (op_store' rfl rfl rfl rfl sz28 rfl rfl (Nat.le_of_ble_eq_true rfl) rfl ?_)
                refine wOps_nil ?_
                exact ⟨rfl, by rw [h36]; rfl, (.keep rfl (.keep rfl (.keep rfl (.keep rfl (.keep rfl (.keep rfl (.keep rfl .nil)))))))⟩
              · -- no
                refine mwp_skip ?_
                exact ⟨rfl, by rw [h36]; rfl, (.keep rfl (.keep rfl (.keep rfl (.keep rfl (.keep rfl (.keep rfl (.keep rfl .nil)))))))⟩
            ·
              refine mwp_seq ?_
              refine mwp_region rfl ?_
              refine wOps_op rfl (op_move rfl rfl ?_)
              refine wOps_op rfl (op_call rfl rfl rfl co20 (((of_spec 4 [] _).sub (.cons (.refl _) (.cons (.nil 2) .nil))).mono ?_))
              rintro _ _ ⟨rfl, rfl⟩
              refine wOps_op rfl (op_alloc' rfl zm24 rfl rfl ?_)
              refine wOps_op rfl (op_store' rfl rfl rfl rfl sz24 rfl rfl (Nat.le_of_ble_eq_true rfl) rfl ?_)
              refine wOps_op rfl (op_assign rfl rfl ?_)
              refine wOps_nil ?_
              refine mwp_seq ?_
              refine mwp_seq ?_
              refine mwp_region rfl ?_
              refine wOps_op rfl (op_move rfl rfl ?_)
              refine wOps_nil ?_
              refine mwp_block ?_
              refine mwp_seq ?_
              refine mwp_seq ?_
              refine mwp_region rfl ?_
              refine wOps_op rfl (op_cmp rfl rfl rfl rfl ?_)
              refine wOps_op rfl (op_assign rfl rfl ?_)
              refine wOps_nil ?_
              refine mwp_cond_f rfl (rfl) ?_
              refine mwp_region rfl ?_
              refine wOps_op rfl (op_cmp rfl rfl rfl rfl ?_)
              refine wOps_op rfl (op_assign rfl rfl ?_)
              refine wOps_nil ?_
              refine mwp_cond_f rfl (rfl) ?_
              refine mwp_seq ?_
              refine mwp_region rfl ?_
              refine wOps_op rfl (op_cmp rfl rfl rfl rfl ?_)
              refine wOps_op rfl (op_assign rfl rfl ?_)
              refine wOps_nil ?_
              refine mwp_cond_f rfl (rfl) ?_
              refine mwp_seq ?_
              refine mwp_region rfl ?_
              refine wOps_op rfl (op_cmp rfl rfl rfl rfl ?_)
              refine wOps_op rfl (op_assign rfl rfl ?_)
              refine wOps_nil ?_
              refine mwp_cond_t rfl (rfl) ?_
              refine mwp_region rfl ?_
              refine wOps_op rfl (op_move rfl rfl ?_)
              refine wOps_op rfl (op_call rfl rfl rfl co20 (((of_spec 1 [] _).sub (.cons (.refl _) (.cons (.nil 2) .nil))).mono ?_))
              rintro _ _ ⟨rfl, rfl⟩
              refine wOps_op rfl (op_buildSlice rfl Try.underlying22 el24 rfl rfl (by decide) (by decide) rfl rfl ?_)
              refine wOps_op rfl (op_call rfl rfl rfl co20 ((of_spec 4 [.mk 1 []] _).mono ?_))
              rintro _ _ ⟨rfl, rfl⟩
              refine wOps_op rfl (op_move rfl rfl ?_)
              refine wOps_op rfl (op_not rfl rfl ?_)
              refine wOps_op rfl (op_move rfl rfl ?_)
              refine wOps_case (fun h84 => ?_) (fun h84 => ?_)
              ·
                refine wOps_op rfl (op_move rfl rfl ?_)
                refine wOps_op rfl (op_not rfl rfl ?_)
                refine wOps_op rfl (op_pick rfl rfl rfl ?_)
                refine wOps_op rfl (op_move rfl rfl ?_)
                refine wOps_case (fun h88 => ?_) (fun h88 => ?_)
                ·
                  refine wOps_op rfl (op_move rfl rfl ?_)
                  refine wOps_op rfl (op_not rfl rfl ?_)
                  refine wOps_op rfl (op_pick rfl rfl rfl ?_)
                  refine wOps_op rfl (op_move rfl rfl ?_)
                  refine wOps_case (fun h92 => ?_) (fun h92 => ?_)
                  ·
                    refine wOps_op rfl (op_move rfl rfl ?_)
                    refine wOps_op rfl (op_move rfl rfl ?_)
                    refine wOps_op rfl (op_booleq rfl Try.underlying4 rfl rfl ?_)
                    refine wOps_op rfl (op_pick rfl rfl rfl ?_)
                    refine wOps_op rfl (op_store' rfl rfl rfl rfl sz24 rfl rfl (Nat.le_of_ble_eq_true rfl) rfl ?_)
                    refine wOps_op rfl (op_assign rfl rfl ?_)
                    refine wOps_nil ?_
                    refine mwp_seq ?_
                    refine mwp_region rfl ?_
                    refine wOps_op rfl (op_load' rfl rfl rfl ta24 rfl ?_)
                    refine wOps_op rfl (op_load' rfl rfl rfl ta30 rfl ?_)
                    refine wOps_op rfl (op_call rfl rfl rfl co9 (((valIs_spec (tyK 4) (vX n m s c v) (ok_vX n m s c v) _).sub (.cons (.refl _) (.cons (sub_parts n m s c v) .nil))).mono ?_))
                    rintro _ _ ⟨rfl, rfl⟩
                    rw [parts_law (by omega)]
                    refine wOps_op rfl (op_move rfl rfl ?_)
                    refine wOps_op rfl (op_booleq rfl Try.underlying4 rfl rfl ?_)
                    refine wOps_op rfl (op_assign rfl rfl ?_)
                    refine wOps_nil ?_
                    refine mwp_ret ?_
                    exact ret_tmp (.inr rfl) Try.results5 rfl (.of_eq (by cases n <;> cases m <;> cases s <;> cases c <;> cases v <;> simp_all [wantF])) (.bool _) ⟨rfl, rfl⟩
                  ·
                    refine wOps_skip rfl ?_
                    refine wOps_skip rfl ?_
                    refine wOps_skip rfl ?_
                    refine wOps_op rfl (op_pick rfl rfl rfl ?_)
                    refine wOps_op rfl (op_store' rfl rfl rfl rfl sz24 rfl rfl (Nat.le_of_ble_eq_true rfl) rfl ?_)
                    refine wOps_op rfl (op_assign rfl rfl ?_)
                    refine wOps_nil ?_
                    refine mwp_seq ?_
                    refine mwp_region rfl ?_
                    refine wOps_op rfl (op_load' rfl rfl rfl ta24 rfl ?_)
                    refine wOps_op rfl (op_load' rfl rfl rfl ta30 rfl ?_)
                    refine wOps_op rfl (op_call rfl rfl rfl co9 (((valIs_spec (tyK 4) (vX n m s c v) (ok_vX n m s c v) _).sub (.cons (.refl _) (.cons (sub_parts n m s c v) .nil))).mono ?_))
                    rintro _ _ ⟨rfl, rfl⟩
                    rw [parts_law (by omega)]
                    refine wOps_op rfl (op_move rfl rfl ?_)
                    refine wOps_op rfl (op_booleq rfl Try.underlying4 rfl rfl ?_)
                    refine wOps_op rfl (op_assign rfl rfl ?_)
                    refine wOps_nil ?_
                    refine mwp_ret ?_
                    exact ret_tmp (.inr rfl) Try.results5 rfl (.of_eq (by cases n <;> cases m <;> cases s <;> cases c <;> cases v <;> simp_all [wantF])) (.bool _) ⟨rfl, rfl⟩
                ·
                  refine wOps_skip rfl ?_
                  refine wOps_skip rfl ?_
                  refine wOps_op rfl (op_pick rfl rfl rfl ?_)
                  refine wOps_op rfl (op_move rfl rfl ?_)
                  refine wOps_skip rfl ?_
                  refine wOps_skip rfl ?_
                  refine wOps_skip rfl ?_
                  refine wOps_op rfl (op_pick rfl rfl rfl ?_)
                  refine wOps_op rfl (op_store' rfl rfl rfl rfl sz24 rfl rfl (Nat.le_of_ble_eq_true rfl) rfl ?_)
                  refine wOps_op rfl (op_assign rfl rfl ?_)
                  refine wOps_nil ?_
                  refine mwp_seq ?_
                  refine mwp_region rfl ?_
                  refine wOps_op rfl (op_load' rfl rfl rfl ta24 rfl ?_)
                  refine wOps_op rfl (op_load' rfl rfl rfl ta30 rfl ?_)
                  refine wOps_op rfl (op_call rfl rfl rfl co9 (((valIs_spec (tyK 4) (vX n m s c v) (ok_vX n m s c v) _).sub (.cons (.refl _) (.cons (sub_parts n m s c v) .nil))).mono ?_))
                  rintro _ _ ⟨rfl, rfl⟩
                  rw [parts_law (by omega)]
                  refine wOps_op rfl (op_move rfl rfl ?_)
                  refine wOps_op rfl (op_booleq rfl Try.underlying4 rfl rfl ?_)
                  refine wOps_op rfl (op_assign rfl rfl ?_)
                  refine wOps_nil ?_
                  refine mwp_ret ?_
                  exact ret_tmp (.inr rfl) Try.results5 rfl (.of_eq (by cases n <;> cases m <;> cases s <;> cases c <;> cases v <;> simp_all [wantF])) (.bool _) ⟨rfl, rfl⟩
              ·
                refine wOps_skip rfl ?_
                refine wOps_skip rfl ?_
                refine wOps_op rfl (op_pick rfl rfl rfl ?_)
                refine wOps_op rfl (op_move rfl rfl ?_)
                refine wOps_skip rfl ?_
                refine wOps_skip rfl ?_
                refine wOps_op rfl (op_pick rfl rfl rfl ?_)
                refine wOps_op rfl (op_move rfl rfl ?_)
                refine wOps_skip rfl ?_
                refine wOps_skip rfl ?_
                refine wOps_skip rfl ?_
                refine wOps_op rfl (op_pick rfl rfl rfl ?_)
                refine wOps_op rfl (op_store' rfl rfl rfl rfl sz24 rfl rfl (Nat.le_of_ble_eq_true rfl) rfl ?_)
                refine wOps_op rfl (op_assign rfl rfl ?_)
                refine wOps_nil ?_
                refine mwp_seq ?_
                refine mwp_region rfl ?_
                refine wOps_op rfl (op_load' rfl rfl rfl ta24 rfl ?_)
                refine wOps_op rfl (op_load' rfl rfl rfl ta30 rfl ?_)
                refine wOps_op rfl (op_call rfl rfl rfl co9 (((valIs_spec (tyK 4) (vX n m s c v) (ok_vX n m s c v) _).sub (.cons (.refl _) (.cons (sub_parts n m s c v) .nil))).mono ?_))
                rintro _ _ ⟨rfl, rfl⟩
                rw [parts_law (by omega)]
                refine wOps_op rfl (op_move rfl rfl ?_)
                refine wOps_op rfl (op_booleq rfl Try.underlying4 rfl rfl ?_)
                refine wOps_op rfl (op_assign rfl rfl ?_)
                refine wOps_nil ?_
                refine mwp_ret ?_
                exact ret_tmp (.inr rfl) Try.results5 rfl (.of_eq (by cases n <;> cases m <;> cases s <;> cases c <;> cases v <;> simp_all [wantF])) (.bool _) ⟨rfl, rfl⟩
  ·
    refine mcalls_body Try.func5 rfl Try.ntmps5 (Nat.le_of_ble_eq_true rfl) ?_
    refine mwp_seq ?_
    refine mwp_region rfl ?_
    refine wOps_op rfl (op_assign rfl rfl ?_)
    refine wOps_nil ?_
    refine mwp_seq ?_
    refine mwp_seq ?_
    refine mwp_region rfl ?_
    refine wOps_op rfl (op_call rfl rfl rfl co8 ((knownV_spec _).mono ?_))
    rintro _ _ ⟨rfl, rfl⟩
    refine wOps_op rfl (op_not rfl rfl ?_)
    refine wOps_nil ?_
    refine mwp_cond_f rfl (rfl) ?_
    refine mwp_skip ?_
    refine mwp_seq ?_
    refine mwp_region rfl ?_
    refine wOps_op rfl (op_move rfl rfl ?_)
    refine wOps_op rfl (op_rem rfl rfl rfl (by decide) (rem8 h) ?_)
    refine wOps_op rfl (op_convInt rfl Try.underlying5 Try.underlying3 rfl (show IntKind.i64.wrap 4 = 4 from rfl) ?_)
    refine wOps_op rfl (op_arith rfl rfl rfl (show intArith .add .i64 4 1 = some 5 from rfl) ?_)
    refine wOps_op rfl (op_assign rfl rfl ?_)
    refine wOps_nil ?_
    refine mwp_seq ?_
    refine mwp_region rfl ?_
    refine wOps_op rfl (op_build rfl Try.underlying30 zm30 .nil (by kernel_rfl) ?_)
    refine wOps_op rfl (op_alloc' rfl zm30 rfl rfl ?_)
    refine wOps_op rfl (op_store' rfl rfl rfl rfl sz30 rfl rfl (Nat.le_of_ble_eq_true rfl) rfl ?_)
    refine wOps_nil ?_
    refine mwp_join (E := [(1, .bool n), (2, .bool m), (3, .bool s), (4, .bool c), (5, .bool v), (13, .int .i64 5), (14, .ref (S.length + 0) 0)]) (S ++ [.cells [cN n, .int .u64 0, .lst0, .lst0, .lst0]]) ?_ ?_
    ·
      refine mwp_seq ?_
      refine mwp_region rfl ?_
      refine wOps_op rfl (op_move rfl rfl ?_)
      refine wOps_nil ?_
      refine mwp_cond_split rfl (fun h24 => ?_) (fun h24 => ?_)
      · -- yes
        refine mwp_region rfl ?_
        refine wOps_op rfl (op_fieldAddr_ref rfl rfl fo30_0 ?_)
        refine wOps_op rfl (op_store' rfl rfl rfl rfl sz25 rfl rfl (Nat.le_of_ble_eq_true rfl) rfl ?_)
        refine wOps_nil ?_
        exact ⟨rfl, by rw [h24]; rfl, (.keep rfl (.keep rfl (.keep rfl (.keep rfl (.keep rfl (.keep rfl (.keep rfl .nil)))))))⟩
      · -- no
        refine mwp_skip ?_
        exact ⟨rfl, by rw [h24]; rfl, (.keep rfl (.keep rfl (.keep rfl (.keep rfl (.keep rfl (.keep rfl (.keep rfl .nil)))))))⟩
    ·
      refine mwp_join (E := [(1, .bool n), (2, .bool m), (3, .bool s), (4, .bool c), (5, .bool v), (13, .int .i64 5), (14, .ref (S.length + 0) 0)]) (S ++ [.cells [cN n, cN m, .lst0, .lst0, .lst0]]) ?_ ?_
      ·
        refine mwp_seq ?_
        refine mwp_region rfl ?_
        refine wOps_op rfl (op_move rfl rfl ?_)
        refine wOps_nil ?_
        refine mwp_cond_split rfl (fun h26 => ?_) (fun h26 => ?_)
        · -- yes
          refine mwp_region rfl ?_
          refine wOps_op rfl (op_fieldAddr_ref rfl rfl fo30_1 ?_)
          refine wOps_op rfl (op_store' rfl rfl rfl rfl sz25 rfl rfl (Nat.le_of_ble_eq_true rfl) rfl ?_)
          refine wOps_nil ?_
          exact ⟨rfl, by rw [h26]; rfl, (.keep rfl (.keep rfl (.keep rfl (.keep rfl (.keep rfl (.keep rfl (.keep rfl .nil)))))))⟩
        · -- no
          refine mwp_skip ?_
          exact ⟨rfl, by rw [h26]; rfl, (.keep rfl (.keep rfl (.keep rfl (.keep rfl (.keep rfl (.keep rfl (.keep rfl .nil)))))))⟩
      ·
        refine mwp_join (E := [(1, .bool n), (2, .bool m), (3, .bool s), (4, .bool c), (5, .bool v), (13, .int .i64 5), (14, .ref (S.length + 0) 0)]) (S ++ [.cells [cN n, cN m, cS s, .lst0, .lst0]]) ?_ ?_
        ·
          refine mwp_seq ?_
          refine mwp_region rfl ?_
          refine wOps_op rfl (op_move rfl rfl ?_)
          refine wOps_nil ?_
          refine mwp_cond_split rfl (fun h28 => ?_) (fun h28 => ?_)
          · -- yes
            refine mwp_region rfl ?_
            refine wOps_op rfl (op_buildSlice rfl Try.underlying26 el9 rfl rfl (by decide) (by decide) rfl rfl ?_)
            refine wOps_op rfl (op_fieldAddr_ref rfl rfl fo30_2 ?_)
            refine wOps_op rfl (op_store' rfl rfl rfl rfl sz26 rfl rfl (Nat.le_of_ble_eq_true rfl) rfl ?_)
            refine wOps_nil ?_
            exact ⟨rfl, by rw [h28]; rfl, (.keep rfl (.keep rfl (.keep rfl (.keep rfl (.keep rfl (.keep rfl (.keep rfl .nil)))))))⟩
          · -- no
            refine mwp_skip ?_
            exact ⟨rfl, by rw [h28]; rfl, (.keep rfl (.keep rfl (.keep rfl (.keep rfl (.keep rfl (.keep rfl (.keep rfl .nil)))))))⟩
        ·
          refine mwp_join (E := [(1, .bool n), (2, .bool m), (3, .bool s), (4, .bool c), (5, .bool v), (13, .int .i64 5), (14, .ref (S.length + 0) 0)]) (S ++ [.cells [cN n, cN m, cS s, cC c, .lst0]]) ?_ ?_
          ·
            refine mwp_seq ?_
            refine mwp_region rfl ?_
            refine wOps_op rfl (op_move rfl rfl ?_)
            refine wOps_nil ?_
            refine mwp_cond_split rfl (fun h31 => ?_) (fun h31 => ?_)
            · -- yes
              refine mwp_region rfl ?_
              refine wOps_op rfl (op_build rfl Try.underlying39 zm39 (.cons fo39_0 sz3 rfl rfl (Nat.le_of_ble_eq_true rfl) (.cons fo39_1 sz25 rfl rfl (Nat.le_of_ble_eq_true rfl) .nil)) (by kernel_rfl) ?_)
              refine wOps_op rfl (op_buildSlice rfl Try.underlying40 el39 rfl rfl (by decide) (by decide) rfl rfl ?_)
              refine wOps_op rfl (op_buildSlice rfl Try.underlying27 el40 rfl rfl (by decide) (by decide) rfl rfl ?_)
              refine wOps_op rfl (op_fieldAddr_ref rfl rfl fo30_3 ?_)
              refine wOps_op rfl (op_store' rfl rfl rfl rfl sz27 rfl rfl (Nat.le_of_ble_eq_true rfl) rfl ?_)
              refine wOps_nil ?_
              exact ⟨rfl, by rw [h31]; rfl, (.keep rfl (.keep rfl (.keep rfl (.keep rfl (.keep rfl (.keep rfl (.keep rfl .nil)))))))⟩
            · -- no
              refine mwp_skip ?_
              exact ⟨rfl, by rw [h31]; rfl, (.keep rfl (.keep rfl (.keep rfl (.keep rfl (.keep rfl (.keep rfl (.keep rfl .nil)))))))⟩
          ·
            refine mwp_join (E := [(1, .bool n), (2, .bool m), (3, .bool s), (4, .bool c), (5, .bool v), (13, .int .i64 5), (14, .ref (S.length + 0) 0)]) (S ++ [.cells [cN n, cN m, cS s, cC c, cW v]]) ?_ ?_
            ·
              refine mwp_seq ?_
              refine mwp_region rfl ?_
              refine wOps_op rfl (op_move rfl rfl ?_)
              refine wOps_nil ?_
              refine mwp_cond_split rfl (fun h36 => ?_) (fun h36 => ?_)
              · -- yes
                refine mwp_region rfl ?_
                refine wOps_op rfl (op_viewTo (y := encV vOne) (op_build rfl Try.underlying30 zm30 (.cons fo30_0 sz25 rfl rfl (Nat.le_of_ble_eq_true rfl) .nil) (by kernel_rfl) ⟨rfl, rfl⟩) (.agg (.cons (.refl _) (.cons (.refl _) (.cons (.nil 1) (.cons (.nil 1) (.cons (.nil 5) .nil)))))) ?_)
                refine wOps_op rfl (op_buildSlice rfl Try.underlying28 el30 rfl rfl (by decide) (by decide) rfl rfl ?_)
                refine wOps_op rfl (op_fieldAddr_ref rfl rfl fo30_4 ?_)
                refine wOps_op rfl (op_store' rfl rfl rfl rfl sz28 rfl rfl (Nat.le_of_ble_eq_true rfl) rfl ?_)
                refine wOps_nil ?_
                exact ⟨rfl, by rw [h36]; rfl, (.keep rfl (.keep rfl (.keep rfl (.keep rfl (.keep rfl (.keep rfl (.keep rfl .nil)))))))⟩
              · -- no
                refine mwp_skip ?_
                exact ⟨rfl, by rw [h36]; rfl, (.keep rfl (.keep rfl (.keep rfl (.keep rfl (.keep rfl (.keep rfl (.keep rfl .nil)))))))⟩
            ·
              refine mwp_seq ?_
              refine mwp_region rfl ?_
              refine wOps_op rfl (op_move rfl rfl ?_)
              refine wOps_op rfl (op_call rfl rfl rfl co20 (((of_spec 5 [] _).sub (.cons (.refl _) (.cons (.nil 2) .nil))).mono ?_))
              rintro _ _ ⟨rfl, rfl⟩
              refine wOps_op rfl (op_alloc' rfl zm24 rfl rfl ?_)
              refine wOps_op rfl (op_store' rfl rfl rfl rfl sz24 rfl rfl (Nat.le_of_ble_eq_true rfl) rfl ?_)
              refine wOps_op rfl (op_assign rfl rfl ?_)
              refine wOps_nil ?_
              refine mwp_seq ?_
              refine mwp_seq ?_
              refine mwp_region rfl ?_
              refine wOps_op rfl (op_move rfl rfl ?_)
              refine wOps_nil ?_
              refine mwp_block ?_
              refine mwp_seq ?_
              refine mwp_seq ?_
              refine mwp_region rfl ?_
              refine wOps_op rfl (op_cmp rfl rfl rfl rfl ?_)
              refine wOps_op rfl (op_assign rfl rfl ?_)
              refine wOps_nil ?_
              refine mwp_cond_f rfl (rfl) ?_
              refine mwp_region rfl ?_
              refine wOps_op rfl (op_cmp rfl rfl rfl rfl ?_)
              refine wOps_op rfl (op_assign rfl rfl ?_)
              refine wOps_nil ?_
              refine mwp_cond_f rfl (rfl) ?_
              refine mwp_seq ?_
              refine mwp_region rfl ?_
              refine wOps_op rfl (op_cmp rfl rfl rfl rfl ?_)
              refine wOps_op rfl (op_assign rfl rfl ?_)
              refine wOps_nil ?_
              refine mwp_cond_f rfl (rfl) ?_
              refine mwp_seq ?_
              refine mwp_region rfl ?_
              refine wOps_op rfl (op_cmp rfl rfl rfl rfl ?_)
              refine wOps_op rfl (op_assign rfl rfl ?_)
              refine wOps_nil ?_
              refine mwp_cond_f rfl (rfl) ?_
              refine mwp_seq ?_
              refine mwp_region rfl ?_
              refine wOps_op rfl (op_cmp rfl rfl rfl rfl ?_)
              refine wOps_op rfl (op_assign rfl rfl ?_)
              refine wOps_nil ?_
              refine mwp_cond_t rfl (rfl) ?_
              refine mwp_region rfl ?_
              refine wOps_op rfl (op_move rfl rfl ?_)
              refine wOps_op rfl (op_call rfl rfl rfl co20 (((of_spec 1 [] _).sub (.cons (.refl _) (.cons (.nil 2) .nil))).mono ?_))
              rintro _ _ ⟨rfl, rfl⟩
              refine wOps_op rfl (op_call rfl rfl rfl co20 (((of_spec 1 [] _).sub (.cons (.refl _) (.cons (.nil 2) .nil))).mono ?_))
              rintro _ _ ⟨rfl, rfl⟩
              refine wOps_op rfl (op_buildSlice rfl Try.underlying22 el24 rfl rfl (by decide) (by decide) rfl rfl ?_)
              refine wOps_op rfl (op_call rfl rfl rfl co20 ((of_spec 5 [.mk 1 [], .mk 1 []] _).mono ?_))
              rintro _ _ ⟨rfl, rfl⟩
              refine wOps_op rfl (op_store' rfl rfl rfl rfl sz24 rfl rfl (Nat.le_of_ble_eq_true rfl) rfl ?_)
              refine wOps_nil ?_
              refine mwp_seq ?_
              refine mwp_region rfl ?_
              refine wOps_op rfl (op_load' rfl rfl rfl ta24 rfl ?_)
              refine wOps_op rfl (op_load' rfl rfl rfl ta30 rfl ?_)
              refine wOps_op rfl (op_call rfl rfl rfl co9 (((valIs_spec (tyK 5) (vX n m s c v) (ok_vX n m s c v) _).sub (.cons (.refl _) (.cons (sub_parts n m s c v) .nil))).mono ?_))
              rintro _ _ ⟨rfl, rfl⟩
              rw [parts_law (by omega)]
              refine wOps_op rfl (op_move rfl rfl ?_)
              refine wOps_op rfl (op_booleq rfl Try.underlying4 rfl rfl ?_)
              refine wOps_op rfl (op_assign rfl rfl ?_)
              refine wOps_nil ?_
              refine mwp_ret ?_
              exact ret_tmp (.inr rfl) Try.results5 rfl (.of_eq (by cases n <;> cases m <;> cases s <;> cases c <;> cases v <;> simp_all [wantF])) (.bool _) ⟨rfl, rfl⟩
  ·
    refine mcalls_body Try.func5 rfl Try.ntmps5 (Nat.le_of_ble_eq_true rfl) ?_
    refine mwp_seq ?_
    refine mwp_region rfl ?_
    refine wOps_op rfl (op_assign rfl rfl ?_)
    refine wOps_nil ?_
    refine mwp_seq ?_
    refine mwp_seq ?_
    refine mwp_region rfl ?_
    refine wOps_op rfl (op_call rfl rfl rfl co8 ((knownV_spec _).mono ?_))
    rintro _ _ ⟨rfl, rfl⟩
    refine wOps_op rfl (op_not rfl rfl ?_)
    refine wOps_nil ?_
    refine mwp_cond_f rfl (rfl) ?_
    refine mwp_skip ?_
    refine mwp_seq ?_
    refine mwp_region rfl ?_
    refine wOps_op rfl (op_move rfl rfl ?_)
    refine wOps_op rfl (op_rem rfl rfl rfl (by decide) (rem8 h) ?_)
    refine wOps_op rfl (op_convInt rfl Try.underlying5 Try.underlying3 rfl (show IntKind.i64.wrap 5 = 5 from rfl) ?_)
    refine wOps_op rfl (op_arith rfl rfl rfl (show intArith .add .i64 5 1 = some 6 from rfl) ?_)
    refine wOps_op rfl (op_assign rfl rfl ?_)
    refine wOps_nil ?_
    refine mwp_seq ?_
    refine mwp_region rfl ?_
    refine wOps_op rfl (op_build rfl Try.underlying30 zm30 .nil (by kernel_rfl) ?_)
    refine wOps_op rfl (op_alloc' rfl zm30 rfl rfl ?_)
    refine wOps_op rfl (op_store' rfl rfl rfl rfl sz30 rfl rfl (Nat.le_of_ble_eq_true rfl) rfl ?_)
    refine wOps_nil ?_
    refine mwp_join (E := [(1, .bool n), (2, .bool m), (3, .bool s), (4, .bool c), (5, .bool v), (13, .int .i64 6), (14, .ref (S.length + 0) 0)]) (S ++ [.cells [cN n, .int .u64 0, .lst0, .lst0, .lst0]]) ?_ ?_
    ·
      refine mwp_seq ?_
      refine mwp_region rfl ?_
      refine wOps_op rfl (op_move rfl rfl ?_)
      refine wOps_nil ?_
      refine mwp_cond_split rfl (fun h24 => ?_) (fun h24 => ?_)
      · -- yes
        refine mwp_region rfl ?_
        refine wOps_op rfl (op_fieldAddr_ref rfl rfl fo30_0 ?_)
        refine wOps_op rfl (op_store' rfl rfl rfl rfl sz25 rfl rfl (Nat.le_of_ble_eq_true rfl) rfl ?_)
        refine wOps_nil ?_
        exact ⟨rfl, by rw [h24]; rfl, (.keep rfl (.keep rfl (.keep rfl (.keep rfl (.keep rfl (.keep rfl (.keep rfl .nil)))))))⟩
      · -- no
        refine mwp_skip ?_
        exact ⟨rfl, by rw [h24]; rfl, (.keep rfl (.keep rfl (.keep rfl (.keep rfl (.keep rfl (.keep rfl (.keep rfl .nil)))))))⟩
    ·
      refine mwp_join (E := [(1, .bool n), (2, .bool m), (3, .bool s), (4, .bool c), (5, .bool v), (13, .int .i64 6), (14, .ref (S.length + 0) 0)]) (S ++ [.cells [cN n, cN m, .lst0, .lst0, .lst0]]) ?_ ?_
      ·
        refine mwp_seq ?_
        refine mwp_region rfl ?_
        refine wOps_op rfl (op_move rfl rfl ?_)
        refine wOps_nil ?_
        refine mwp_cond_split rfl (fun h26 => ?_) (fun h26 => ?_)
        · -- yes
          refine mwp_region rfl ?_
          refine wOps_op rfl (op_fieldAddr_ref rfl rfl fo30_1 ?_)
          refine wOps_op rfl (op_store' rfl rfl rfl rfl sz25 rfl rfl (Nat.le_of_ble_eq_true rfl) rfl ?_)
          refine wOps_nil ?_
          exact ⟨rfl, by rw [h26]; rfl, (.keep rfl (.keep rfl (.keep rfl (.keep rfl (.keep rfl (.keep rfl (.keep rfl .nil)))))))⟩
        · -- no
          refine mwp_skip ?_
          exact ⟨rfl, by rw [h26]; rfl, (.keep rfl (.keep rfl (.keep rfl (.keep rfl (.keep rfl (.keep rfl (.keep rfl .nil)))))))⟩
      ·
        refine mwp_join (E := [(1, .bool n), (2, .bool m), (3, .bool s), (4, .bool c), (5, .bool v), (13, .int .i64 6), (14, .ref (S.length + 0) 0)]) (S ++ [.cells [cN n, cN m, cS s, .lst0, .lst0]]) ?_ ?_
        ·
          refine mwp_seq ?_
          refine mwp_region rfl ?_
          refine wOps_op rfl (op_move rfl rfl ?_)
          refine wOps_nil ?_
          refine mwp_cond_split rfl (fun h28 => ?_) (fun h28 => ?_)
          · -- yes
            refine mwp_region rfl ?_
            refine wOps_op rfl (op_buildSlice rfl Try.underlying26 el9 rfl rfl (by decide) (by decide) rfl rfl ?_)
            refine wOps_op rfl (op_fieldAddr_ref rfl rfl fo30_2 ?_)
            refine wOps_op rfl (op_store' rfl rfl rfl rfl sz26 rfl rfl (Nat.le_of_ble_eq_true rfl) rfl ?_)
            refine wOps_nil ?_
            exact ⟨rfl, by rw [h28]; rfl, (.keep rfl (.keep rfl (.keep rfl (.keep rfl (.keep rfl (.keep rfl (.keep rfl .nil)))))))⟩
          · -- no
            refine mwp_skip ?_
            exact ⟨rfl, by rw [h28]; rfl, (.keep rfl (.keep rfl (.keep rfl (.keep rfl (.keep rfl (.keep rfl (.keep rfl .nil)))))))⟩
        ·
          refine mwp_join (E := [(1, .bool n), (2, .bool m), (3, .bool s), (4, .bool c), (5, .bool v), (13, .int .i64 6), (14, .ref (S.length + 0) 0)]) (S ++ [.cells [cN n, cN m, cS s, cC c, .lst0]]) ?_ ?_
          ·
            refine mwp_seq ?_
            refine mwp_region rfl ?_
            refine wOps_op rfl (op_move rfl rfl ?_)
            refine wOps_nil ?_
            refine mwp_cond_split rfl (fun h31 => ?_) (fun h31 => ?_)
            · -- yes
              refine mwp_region rfl ?_
              refine wOps_op rfl (op_build rfl Try.underlying39 zm39 (.cons fo39_0 sz3 rfl rfl (Nat.le_of_ble_eq_true rfl) (.cons fo39_1 sz25 rfl rfl (Nat.le_of_ble_eq_true rfl) .nil)) (by kernel_rfl) ?_)
              refine wOps_op rfl (op_buildSlice rfl Try.underlying40 el39 rfl rfl (by decide) (by decide) rfl rfl ?_)
              refine wOps_op rfl (op_buildSlice rfl Try.underlying27 el40 rfl rfl (by decide) (by decide) rfl rfl ?_)
              refine wOps_op rfl (op_fieldAddr_ref rfl rfl fo30_3 ?_)
              refine wOps_op rfl (op_store' rfl rfl rfl rfl sz27 rfl rfl (Nat.le_of_ble_eq_true rfl) rfl ?_)
              refine wOps_nil ?_
              exact ⟨rfl, by rw [h31]; rfl, (.keep rfl (.keep rfl (.keep rfl (.keep rfl (.keep rfl (.keep rfl (.keep rfl .nil)))))))⟩
            · -- no
              refine mwp_skip ?_
              exact ⟨rfl, by rw [h31]; rfl, (.keep rfl (.keep rfl (.keep rfl (.keep rfl (.keep rfl (.keep rfl (.keep rfl .nil)))))))⟩
          ·
            refine mwp_join (E := [(1, .bool n), (2, .bool m), (3, .bool s), (4, .bool c), (5, .bool v), (13, .int .i64 6), (14, .ref (S.length + 0) 0)]) (S ++ [.cells [cN n, cN m, cS s, cC c, cW v]]) ?_ ?_
            ·
              refine mwp_seq ?_
              refine mwp_region rfl ?_
              refine wOps_op rfl (op_move rfl rfl ?_)
              refine wOps_nil ?_
              refine mwp_cond_split rfl (fun h36 => ?_) (fun h36 => ?_)
              · -- yes
                refine mwp_region rfl ?_
                refine wOps_op rfl (op_viewTo (y := encV vOne) (op_build rfl Try.underlying30 zm30 (.cons fo30_0 sz25 rfl rfl (Nat.le_of_ble_eq_true rfl) .nil) (by kernel_rfl) ⟨rfl, rfl⟩) (.agg (.cons (.refl _) (.cons (.refl _) (.cons (.nil 1) (.cons (.nil 1) (.cons (.nil 5) .nil)))))) ?_)
                refine wOps_op rfl (op_buildSlice rfl Try.underlying28 el30 rfl rfl (by decide) (by decide) rfl rfl ?_)
                refine wOps_op rfl (op_fieldAddr_ref rfl rfl fo30_4 ?_)
                refine wOps_op rfl (op_store' rfl rfl rfl rfl sz28 rfl rfl (Nat.le_of_ble_eq_true rfl) rfl ?_)
                refine wOps_nil ?_
                exact ⟨rfl, by rw [h36]; rfl, (.keep rfl (.keep rfl (.keep rfl (.keep rfl (.keep rfl (.keep rfl (.keep rfl .nil)))))))⟩
              · -- no
                refine mwp_skip ?_
                exact ⟨rfl, by rw [h36]; rfl, (.keep rfl (.keep rfl (.keep rfl (.keep rfl (.keep rfl (.keep rfl (.keep rfl .nil)))))))⟩
            ·
              refine mwp_seq ?_
              refine mwp_region rfl ?_
              refine wOps_op rfl (op_move rfl rfl ?_)
              refine wOps_op rfl (op_call rfl rfl rfl co20 (((of_spec 6 [] _).sub (.cons (.refl _) (.cons (.nil 2) .nil))).mono ?_))
              rintro _ _ ⟨rfl, rfl⟩
              refine wOps_op rfl (op_alloc' rfl zm24 rfl rfl ?_)
              refine wOps_op rfl (op_store' rfl rfl rfl rfl sz24 rfl rfl (Nat.le_of_ble_eq_true rfl) rfl ?_)
              refine wOps_op rfl (op_assign rfl rfl ?_)
              refine wOps_nil ?_
              refine mwp_seq ?_
              refine mwp_seq ?_
              refine mwp_region rfl ?_
              refine wOps_op rfl (op_move rfl rfl ?_)
              refine wOps_nil ?_
              refine mwp_block ?_
              refine mwp_seq ?_
              refine mwp_seq ?_
              refine mwp_region rfl ?_
              refine wOps_op rfl (op_cmp rfl rfl rfl rfl ?_)
              refine wOps_op rfl (op_assign rfl rfl ?_)
              refine wOps_nil ?_
              refine mwp_cond_f rfl (rfl) ?_
              refine mwp_region rfl ?_
              refine wOps_op rfl (op_cmp rfl rfl rfl rfl ?_)
              refine wOps_op rfl (op_assign rfl rfl ?_)
              refine wOps_nil ?_
              refine mwp_cond_f rfl (rfl) ?_
              refine mwp_seq ?_
              refine mwp_region rfl ?_
              refine wOps_op rfl (op_cmp rfl rfl rfl rfl ?_)
              refine wOps_op rfl (op_assign rfl rfl ?_)
              refine wOps_nil ?_
              refine mwp_cond_f rfl (rfl) ?_
              refine mwp_seq ?_
              refine mwp_region rfl ?_
              refine wOps_op rfl (op_cmp rfl rfl rfl rfl ?_)
              refine wOps_op rfl (op_assign rfl rfl ?_)
              refine wOps_nil ?_
              refine mwp_cond_f rfl (rfl) ?_
              refine mwp_seq ?_
              refine mwp_region rfl ?_
              refine wOps_op rfl (op_cmp rfl rfl rfl rfl ?_)
              refine wOps_op rfl (op_assign rfl rfl ?_)
              refine wOps_nil ?_
              refine mwp_cond_f rfl (rfl) ?_
              refine mwp_seq ?_
              refine mwp_region rfl ?_
              refine wOps_op rfl (op_cmp rfl rfl rfl rfl ?_)
              refine wOps_op rfl (op_assign rfl rfl ?_)
              refine wOps_nil ?_
              refine mwp_cond_t rfl (rfl) ?_
              refine mwp_region rfl ?_
              refine wOps_op rfl (op_move rfl rfl ?_)
              refine wOps_op rfl (op_not rfl rfl ?_)
              refine wOps_op rfl (op_move rfl rfl ?_)
              refine wOps_case (fun h108 => ?_) (fun h108 => ?_)
              ·
                refine wOps_op rfl (op_move rfl rfl ?_)
                refine wOps_op rfl (op_not rfl rfl ?_)
                refine wOps_op rfl (op_pick rfl rfl rfl ?_)
                refine wOps_op rfl (op_move rfl rfl ?_)
                refine wOps_case (fun h112 => ?_) (fun h112 => ?_)
                ·
                  refine wOps_op rfl (op_move rfl rfl ?_)
                  refine wOps_op rfl (op_move rfl rfl ?_)
                  refine wOps_case (fun h114 => ?_) (fun h114 => ?_)
                  ·
                    refine wOps_skip rfl ?_
                    refine wOps_skip rfl ?_
                    refine wOps_skip rfl ?_
                    refine wOps_skip rfl ?_
                    refine wOps_skip rfl ?_
                    refine wOps_skip rfl ?_
                    refine wOps_op rfl (op_pick rfl rfl rfl ?_)
                    refine wOps_op rfl (op_pick rfl rfl rfl ?_)
                    refine wOps_op rfl (op_assign rfl rfl ?_)
                    refine wOps_nil ?_
                    refine mwp_seq ?_
                    refine mwp_region rfl ?_
                    refine wOps_op rfl (op_load' rfl rfl rfl ta24 rfl ?_)
                    refine wOps_op rfl (op_load' rfl rfl rfl ta30 rfl ?_)
                    refine wOps_op rfl (op_call rfl rfl rfl co9 (((valIs_spec (tyK 6) (vX n m s c v) (ok_vX n m s c v) _).sub (.cons (.refl _) (.cons (sub_parts n m s c v) .nil))).mono ?_))
                    rintro _ _ ⟨rfl, rfl⟩
                    rw [parts_law (by omega)]
                    refine wOps_op rfl (op_move rfl rfl ?_)
                    refine wOps_op rfl (op_booleq rfl Try.underlying4 rfl rfl ?_)
                    refine wOps_op rfl (op_assign rfl rfl ?_)
                    refine wOps_nil ?_
                    refine mwp_ret ?_
                    exact ret_tmp (.inr rfl) Try.results5 rfl (.of_eq (by cases n <;> cases m <;> cases s <;> cases c <;> cases v <;> simp_all [wantF])) (.bool _) ⟨rfl, rfl⟩
                  ·
                    refine wOps_op rfl (op_move rfl rfl ?_)
                    refine wOps_op rfl (op_not rfl rfl ?_)
                    refine wOps_op rfl (op_move rfl rfl ?_)
                    refine wOps_case (fun h117 => ?_) (fun h117 => ?_)
                    ·
                      refine wOps_op rfl (op_move rfl rfl ?_)
                      refine wOps_op rfl (op_not rfl rfl ?_)
                      refine wOps_op rfl (op_pick rfl rfl rfl ?_)
                      refine wOps_op rfl (op_pick rfl rfl rfl ?_)
                      refine wOps_op rfl (op_pick rfl rfl rfl ?_)
                      refine wOps_op rfl (op_assign rfl rfl ?_)
                      refine wOps_nil ?_
                      refine mwp_seq ?_
                      refine mwp_region rfl ?_
                      refine wOps_op rfl (op_load' rfl rfl rfl ta24 rfl ?_)
                      refine wOps_op rfl (op_load' rfl rfl rfl ta30 rfl ?_)
                      refine wOps_op rfl (op_call rfl rfl rfl co9 (((valIs_spec (tyK 6) (vX n m s c v) (ok_vX n m s c v) _).sub (.cons (.refl _) (.cons (sub_parts n m s c v) .nil))).mono ?_))
                      rintro _ _ ⟨rfl, rfl⟩
                      rw [parts_law (by omega)]
                      refine wOps_op rfl (op_move rfl rfl ?_)
                      refine wOps_op rfl (op_booleq rfl Try.underlying4 rfl rfl ?_)
                      refine wOps_op rfl (op_assign rfl rfl ?_)
                      refine wOps_nil ?_
                      refine mwp_ret ?_
                      exact ret_tmp (.inr rfl) Try.results5 rfl (.of_eq (by cases n <;> cases m <;> cases s <;> cases c <;> cases v <;> simp_all [wantF])) (.bool _) ⟨rfl, rfl⟩
                    ·
                      refine wOps_skip rfl ?_
                      refine wOps_skip rfl ?_
                      refine wOps_op rfl (op_pick rfl rfl rfl ?_)
                      refine wOps_op rfl (op_pick rfl rfl rfl ?_)
                      refine wOps_op rfl (op_pick rfl rfl rfl ?_)
                      refine wOps_op rfl (op_assign rfl rfl ?_)
                      refine wOps_nil ?_
                      refine mwp_seq ?_
                      refine mwp_region rfl ?_
                      refine wOps_op rfl (op_load' rfl rfl rfl ta24 rfl ?_)
                      refine wOps_op rfl (op_load' rfl rfl rfl ta30 rfl ?_)
                      refine wOps_op rfl (op_call rfl rfl rfl co9 (((valIs_spec (tyK 6) (vX n m s c v) (ok_vX n m s c v) _).sub (.cons (.refl _) (.cons (sub_parts n m s c v) .nil))).mono ?_))
                      rintro _ _ ⟨rfl, rfl⟩
                      rw [parts_law (by omega)]
                      refine wOps_op rfl (op_move rfl rfl ?_)
                      refine wOps_op rfl (op_booleq rfl Try.underlying4 rfl rfl ?_)
                      refine wOps_op rfl (op_assign rfl rfl ?_)
                      refine wOps_nil ?_
                      refine mwp_ret ?_
                      exact ret_tmp (.inr rfl) Try.results5 rfl (.of_eq (by cases n <;> cases m <;> cases s <;> cases c <;> cases v <;> simp_all [wantF])) (.bool _) ⟨rfl, rfl⟩
                ·
                  refine wOps_skip rfl ?_
                  refine wOps_skip rfl ?_
                  refine wOps_skip rfl ?_
                  refine wOps_skip rfl ?_
                  refine wOps_skip rfl ?_
                  refine wOps_skip rfl ?_
                  refine wOps_skip rfl ?_
                  refine wOps_skip rfl ?_
                  refine wOps_skip rfl ?_
                  refine wOps_op rfl (op_pick rfl rfl rfl ?_)
                  refine wOps_op rfl (op_assign rfl rfl ?_)
                  refine wOps_nil ?_
                  refine mwp_seq ?_
                  refine mwp_region rfl ?_
                  refine wOps_op rfl (op_load' rfl rfl rfl ta24 rfl ?_)
                  refine wOps_op rfl (op_load' rfl rfl rfl ta30 rfl ?_)
                  refine wOps_op rfl (op_call rfl rfl rfl co9 (((valIs_spec (tyK 6) (vX n m s c v) (ok_vX n m s c v) _).sub (.cons (.refl _) (.cons (sub_parts n m s c v) .nil))).mono ?_))
                  rintro _ _ ⟨rfl, rfl⟩
                  rw [parts_law (by omega)]
                  refine wOps_op rfl (op_move rfl rfl ?_)
                  refine wOps_op rfl (op_booleq rfl Try.underlying4 rfl rfl ?_)
                  refine wOps_op rfl (op_assign rfl rfl ?_)
                  refine wOps_nil ?_
                  refine mwp_ret ?_
                  exact ret_tmp (.inr rfl) Try.results5 rfl (.of_eq (by cases n <;> cases m <;> cases s <;> cases c <;> cases v <;> simp_all [wantF])) (.bool _) ⟨rfl, rfl⟩
              ·
                refine wOps_skip rfl ?_
                refine wOps_skip rfl ?_
                refine wOps_op rfl (op_pick rfl rfl rfl ?_)
                refine wOps_op rfl (op_move rfl rfl ?_)
                refine wOps_skip rfl ?_
                refine wOps_skip rfl ?_
                refine wOps_skip rfl ?_
                refine wOps_skip rfl ?_
                refine wOps_skip rfl ?_
                refine wOps_skip rfl ?_
                refine wOps_skip rfl ?_
                refine wOps_skip rfl ?_
                refine wOps_skip rfl ?_
                refine wOps_op rfl (op_pick rfl rfl rfl ?_)
                refine wOps_op rfl (op_assign rfl rfl ?_)
                refine wOps_nil ?_
                refine mwp_seq ?_
                refine mwp_region rfl ?_
                refine wOps_op rfl (op_load' rfl rfl rfl ta24 rfl ?_)
                refine wOps_op rfl (op_load' rfl rfl rfl ta30 rfl ?_)
                refine wOps_op rfl (op_call rfl rfl rfl co9 (((valIs_spec (tyK 6) (vX n m s c v) (ok_vX n m s c v) _).sub (.cons (.refl _) (.cons (sub_parts n m s c v) .nil))).mono ?_))
                rintro _ _ ⟨rfl, rfl⟩
                rw [parts_law (by omega)]
                refine wOps_op rfl (op_move rfl rfl ?_)
                refine wOps_op rfl (op_booleq rfl Try.underlying4 rfl rfl ?_)
                refine wOps_op rfl (op_assign rfl rfl ?_)
                refine wOps_nil ?_
                refine mwp_ret ?_
                exact ret_tmp (.inr rfl) Try.results5 rfl (.of_eq (by cases n <;> cases m <;> cases s <;> cases c <;> cases v <;> simp_all [wantF])) (.bool _) ⟨rfl, rfl⟩
  ·
    refine mcalls_body Try.func5 rfl Try.ntmps5 (Nat.le_of_ble_eq_true rfl) ?_
    refine mwp_seq ?_
    refine mwp_region rfl ?_
    refine wOps_op rfl (op_assign rfl rfl ?_)
    refine wOps_nil ?_
    refine mwp_seq ?_
    refine mwp_seq ?_
    refine mwp_region rfl ?_
    refine wOps_op rfl (op_call rfl rfl rfl co8 ((knownV_spec _).mono ?_))
    rintro _ _ ⟨rfl, rfl⟩
    refine wOps_op rfl (op_not rfl rfl ?_)
    refine wOps_nil ?_
    refine mwp_cond_f rfl (rfl) ?_
    refine mwp_skip ?_
    refine mwp_seq ?_
    refine mwp_region rfl ?_
    refine wOps_op rfl (op_move rfl rfl ?_)
    refine wOps_op rfl (op_rem rfl rfl rfl (by decide) (rem8 h) ?_)
    refine wOps_op rfl (op_convInt rfl Try.underlying5 Try.underlying3 rfl (show IntKind.i64.wrap 6 = 6 from rfl) ?_)
    refine wOps_op rfl (op_arith rfl rfl rfl (show intArith .add .i64 6 1 = some 7 from rfl) ?_)
    refine wOps_op rfl (op_assign rfl rfl ?_)
    refine wOps_nil ?_
    refine mwp_seq ?_
    refine mwp_region rfl ?_
    refine wOps_op rfl (op_build rfl Try.underlying30 zm30 .nil (by kernel_rfl) ?_)
    refine wOps_op rfl (op_alloc' rfl zm30 rfl rfl ?_)
    refine wOps_op rfl (op_store' rfl rfl rfl rfl sz30 rfl rfl (Nat.le_of_ble_eq_true rfl) rfl ?_)
    refine wOps_nil ?_
    refine mwp_join (E := [(1, .bool n), (2, .bool m), (3, .bool s), (4, .bool c), (5, .bool v), (13, .int .i64 7), (14, .ref (S.length + 0) 0)]) (S ++ [.cells [cN n, .int .u64 0, .lst0, .lst0, .lst0]]) ?_ ?_
    ·
      refine mwp_seq ?_
      refine mwp_region rfl ?_
      refine wOps_op rfl (op_move rfl rfl ?_)
      refine wOps_nil ?_
      refine mwp_cond_split rfl (fun h24 => ?_) (fun h24 => ?_)
      · -- yes
        refine mwp_region rfl ?_
        refine wOps_op rfl (op_fieldAddr_ref rfl rfl fo30_0 ?_)
        refine wOps_op rfl (op_store' rfl rfl rfl rfl sz25 rfl rfl (Nat.le_of_ble_eq_true rfl) rfl ?_)
        refine wOps_nil ?_
        exact ⟨rfl, by rw [h24]; rfl, (.keep rfl (.keep rfl (.keep rfl (.keep rfl (.keep rfl (.keep rfl (.keep rfl .nil)))))))⟩
      · -- no
        refine mwp_skip ?_
        exact ⟨rfl, by rw [h24]; rfl, (.keep rfl (.keep rfl (.keep rfl (.keep rfl (.keep rfl (.keep rfl (.keep rfl .nil)))))))⟩
    ·
      refine mwp_join (E := [(1, .bool n), (2, .bool m), (3, .bool s), (4, .bool c), (5, .bool v), (13, .int .i64 7), (14, .ref (S.length + 0) 0)]) (S ++ [.cells [cN n, cN m, .lst0, .lst0, .lst0]]) ?_ ?_
      ·
        refine mwp_seq ?_
        refine mwp_region rfl ?_
        refine wOps_op rfl (op_move rfl rfl ?_)
        refine wOps_nil ?_
        refine mwp_cond_split rfl (fun h26 => ?_) (fun h26 => ?_)
        · -- yes
          refine mwp_region rfl ?_
          refine wOps_op rfl (op_fieldAddr_ref rfl rfl fo30_1 ?_)
          refine wOps_op rfl (op_store' rfl rfl rfl rfl sz25 rfl rfl (Nat.le_of_ble_eq_true rfl) rfl ?_)
          refine wOps_nil ?_
          exact ⟨rfl, by rw [h26]; rfl, (.keep rfl (.keep rfl (.keep rfl (.keep rfl (.keep rfl (.keep rfl (.keep rfl .nil)))))))⟩
        · -- no
          refine mwp_skip ?_
          exact ⟨rfl, by rw [h26]; rfl, (.keep rfl (.keep rfl (.keep rfl (.keep rfl (.keep rfl (.keep rfl (.keep rfl .nil)))))))⟩
      ·
        refine mwp_join (E := [(1, .bool n), (2, .bool m), (3, .bool s), (4, .bool c), (5, .bool v), (13, .int .i64 7), (14, .ref (S.length + 0) 0)]) (S ++ [.cells [cN n, cN m, cS s, .lst0, .lst0]]) ?_ ?_
        ·
          refine mwp_seq ?_
          refine mwp_region rfl ?_
          refine wOps_op rfl (op_move rfl rfl ?_)
          refine wOps_nil ?_
          refine mwp_cond_split rfl (fun h28 => ?_) (fun h28 => ?_)
          · -- yes
            refine mwp_region rfl ?_
            refine wOps_op rfl (op_buildSlice rfl Try.underlying26 el9 rfl rfl (by decide) (by decide) rfl rfl ?_)
            refine wOps_op rfl (op_fieldAddr_ref rfl rfl fo30_2 ?_)
            refine wOps_op rfl (op_store' rfl rfl rfl rfl sz26 rfl rfl (Nat.le_of_ble_eq_true rfl) rfl ?_)
            refine wOps_nil ?_
            exact ⟨rfl, by rw [h28]; rfl, (.keep rfl (.keep rfl (.keep rfl (.keep rfl (.keep rfl (.keep rfl (.keep rfl .nil)))))))⟩
          · -- no
            refine mwp_skip ?_
            exact ⟨rfl, by rw [h28]; rfl, (.keep rfl (.keep rfl (.keep rfl (.keep rfl (.keep rfl (.keep rfl (.keep rfl .nil)))))))⟩
        ·
          refine mwp_join (E := [(1, .bool n), (2, .bool m), (3, .bool s), (4, .bool c), (5, .bool v), (13, .int .i64 7), (14, .ref (S.length + 0) 0)]) (S ++ [.cells [cN n, cN m, cS s, cC c, .lst0]]) ?_ ?_
          ·
            refine mwp_seq ?_
            refine mwp_region rfl ?_
            refine wOps_op rfl (op_move rfl rfl ?_)
            refine wOps_nil ?_
            refine mwp_cond_split rfl (fun h31 => ?_) (fun h31 => ?_)
            · -- yes
              refine mwp_region rfl ?_
              refine wOps_op rfl (op_build rfl Try.underlying39 zm39 (.cons fo39_0 sz3 rfl rfl (Nat.le_of_ble_eq_true rfl) (.cons fo39_1 sz25 rfl rfl (Nat.le_of_ble_eq_true rfl) .nil)) (by kernel_rfl) ?_)
              refine wOps_op rfl (op_buildSlice rfl Try.underlying40 el39 rfl rfl (by decide) (by decide) rfl rfl ?_)
              refine wOps_op rfl (op_buildSlice rfl Try.underlying27 el40 rfl rfl (by decide) (by decide) rfl rfl ?_)
              refine wOps_op rfl (op_fieldAddr_ref rfl rfl fo30_3 ?_)
              refine wOps_op rfl (op_store' rfl rfl rfl rfl sz27 rfl rfl (Nat.le_of_ble_eq_true rfl) rfl ?_)
              refine wOps_nil ?_
              exact ⟨rfl, by rw [h31]; rfl, (.keep rfl (.keep rfl (.keep rfl (.keep rfl (.keep rfl (.keep rfl (.keep rfl .nil)))))))⟩
            · -- no
              refine mwp_skip ?_
              exact ⟨rfl, by rw [h31]; rfl, (.keep rfl (.keep rfl (.keep rfl (.keep rfl (.keep rfl (.keep rfl (.keep rfl .nil)))))))⟩
          ·
            refine mwp_join (E := [(1, .bool n), (2, .bool m), (3, .bool s), (4, .bool c), (5, .bool v), (13, .int .i64 7), (14, .ref (S.length + 0) 0)]) (S ++ [.cells [cN n, cN m, cS s, cC c, cW v]]) ?_ ?_
            ·
              refine mwp_seq ?_
              refine mwp_region rfl ?_
              refine wOps_op rfl (op_move rfl rfl ?_)
              refine wOps_nil ?_
              refine mwp_cond_split rfl (fun h36 => ?_) (fun h36 => ?_)
              · -- yes
                refine mwp_region rfl ?_
                refine wOps_op rfl (op_viewTo (y := encV vOne) (op_build rfl Try.underlying30 zm30 (.cons fo30_0 sz25 rfl rfl (Nat.le_of_ble_eq_true rfl) .nil) (by kernel_rfl) ⟨rfl, rfl⟩) (.agg (.cons (.refl _) (.cons (.refl _) (.cons (.nil 1) (.cons (.nil 1) (.cons (.nil 5) .nil)))))) ?_)
                refine wOps_op rfl (op_buildSlice rfl Try.underlying28 el30 rfl rfl (by decide) (by decide) rfl rfl ?_)
                refine wOps_op rfl (op_fieldAddr_ref rfl rfl fo30_4 ?_)
                refine wOps_op rfl (op_store' rfl rfl rfl rfl sz28 rfl rfl (Nat.le_of_ble_eq_true rfl) rfl ?_)
                refine wOps_nil ?_
                exact ⟨rfl, by rw [h36]; rfl, (.keep rfl (.keep rfl (.keep rfl (.keep rfl (.keep rfl (.keep rfl (.keep rfl .nil)))))))⟩
              · -- no
                refine mwp_skip ?_
                exact ⟨rfl, by rw [h36]; rfl, (.keep rfl (.keep rfl (.keep rfl (.keep rfl (.keep rfl (.keep rfl (.keep rfl .nil)))))))⟩
            ·
              refine mwp_seq ?_
              refine mwp_region rfl ?_
              refine wOps_op rfl (op_move rfl rfl ?_)
              refine wOps_op rfl (op_call rfl rfl rfl co20 (((of_spec 7 [] _).sub (.cons (.refl _) (.cons (.nil 2) .nil))).mono ?_))
              rintro _ _ ⟨rfl, rfl⟩
              refine wOps_op rfl (op_alloc' rfl zm24 rfl rfl ?_)
              refine wOps_op rfl (op_store' rfl rfl rfl rfl sz24 rfl rfl (Nat.le_of_ble_eq_true rfl) rfl ?_)
              refine wOps_op rfl (op_assign rfl rfl ?_)
              refine wOps_nil ?_
              refine mwp_seq ?_
              refine mwp_seq ?_
              refine mwp_region rfl ?_
              refine wOps_op rfl (op_move rfl rfl ?_)
              refine wOps_nil ?_
              refine mwp_block ?_
              refine mwp_seq ?_
              refine mwp_seq ?_
              refine mwp_region rfl ?_
              refine wOps_op rfl (op_cmp rfl rfl rfl rfl ?_)
              refine wOps_op rfl (op_assign rfl rfl ?_)
              refine wOps_nil ?_
              refine mwp_cond_f rfl (rfl) ?_
              refine mwp_region rfl ?_
              refine wOps_op rfl (op_cmp rfl rfl rfl rfl ?_)
              refine wOps_op rfl (op_assign rfl rfl ?_)
              refine wOps_nil ?_
              refine mwp_cond_f rfl (rfl) ?_
              refine mwp_seq ?_
              refine mwp_region rfl ?_
              refine wOps_op rfl (op_cmp rfl rfl rfl rfl ?_)
              refine wOps_op rfl (op_assign rfl rfl ?_)
              refine wOps_nil ?_
              refine mwp_cond_f rfl (rfl) ?_
              refine mwp_seq ?_
              refine mwp_region rfl ?_
              refine wOps_op rfl (op_cmp rfl rfl rfl rfl ?_)
              refine wOps_op rfl (op_assign rfl rfl ?_)
              refine wOps_nil ?_
              refine mwp_cond_f rfl (rfl) ?_
              refine mwp_seq ?_
              refine mwp_region rfl ?_
              refine wOps_op rfl (op_cmp rfl rfl rfl rfl ?_)
              refine wOps_op rfl (op_assign rfl rfl ?_)
              refine wOps_nil ?_
              refine mwp_cond_f rfl (rfl) ?_
              refine mwp_seq ?_
              refine mwp_region rfl ?_
              refine wOps_op rfl (op_cmp rfl rfl rfl rfl ?_)
              refine wOps_op rfl (op_assign rfl rfl ?_)
              refine wOps_nil ?_
              refine mwp_cond_f rfl (rfl) ?_
              refine mwp_seq ?_
              refine mwp_region rfl ?_
              refine wOps_op rfl (op_cmp rfl rfl rfl rfl ?_)
              refine wOps_op rfl (op_assign rfl rfl ?_)
              refine wOps_nil ?_
              refine mwp_cond_t rfl (rfl) ?_
              refine mwp_region rfl ?_
              refine wOps_op rfl (op_move rfl rfl ?_)
              refine wOps_op rfl (op_not rfl rfl ?_)
              refine wOps_op rfl (op_move rfl rfl ?_)
              refine wOps_case (fun h127 => ?_) (fun h127 => ?_)
              ·
                refine wOps_op rfl (op_move rfl rfl ?_)
                refine wOps_op rfl (op_not rfl rfl ?_)
                refine wOps_op rfl (op_pick rfl rfl rfl ?_)
                refine wOps_op rfl (op_move rfl rfl ?_)
                refine wOps_case (fun h131 => ?_) (fun h131 => ?_)
                ·
                  refine wOps_op rfl (op_move rfl rfl ?_)
                  refine wOps_op rfl (op_not rfl rfl ?_)
                  refine wOps_op rfl (op_pick rfl rfl rfl ?_)
                  refine wOps_op rfl (op_move rfl rfl ?_)
                  refine wOps_case (fun h135 => ?_) (fun h135 => ?_)
                  ·
                    refine wOps_op rfl (op_move rfl rfl ?_)
                    refine wOps_op rfl (op_not rfl rfl ?_)
                    refine wOps_op rfl (op_pick rfl rfl rfl ?_)
                    refine wOps_op rfl (op_assign rfl rfl ?_)
                    refine wOps_nil ?_
                    refine mwp_seq ?_
                    refine mwp_region rfl ?_
                    refine wOps_op rfl (op_load' rfl rfl rfl ta24 rfl ?_)
                    refine wOps_op rfl (op_load' rfl rfl rfl ta30 rfl ?_)
                    refine wOps_op rfl (op_call rfl rfl rfl co9 (((valIs_spec (tyK 7) (vX n m s c v) (ok_vX n m s c v) _).sub (.cons (.refl _) (.cons (sub_parts n m s c v) .nil))).mono ?_))
                    rintro _ _ ⟨rfl, rfl⟩
                    rw [parts_law (by omega)]
                    refine wOps_op rfl (op_move rfl rfl ?_)
                    refine wOps_op rfl (op_booleq rfl Try.underlying4 rfl rfl ?_)
                    refine wOps_op rfl (op_assign rfl rfl ?_)
                    refine wOps_nil ?_
                    refine mwp_ret ?_
                    exact ret_tmp (.inr rfl) Try.results5 rfl (.of_eq (by cases n <;> cases m <;> cases s <;> cases c <;> cases v <;> simp_all [wantF])) (.bool _) ⟨rfl, rfl⟩
                  ·
                    refine wOps_skip rfl ?_
                    refine wOps_skip rfl ?_
                    refine wOps_op rfl (op_pick rfl rfl rfl ?_)
                    refine wOps_op rfl (op_assign rfl rfl ?_)
                    refine wOps_nil ?_
                    refine mwp_seq ?_
                    refine mwp_region rfl ?_
                    refine wOps_op rfl (op_load' rfl rfl rfl ta24 rfl ?_)
                    refine wOps_op rfl (op_load' rfl rfl rfl ta30 rfl ?_)
                    refine wOps_op rfl (op_call rfl rfl rfl co9 (((valIs_spec (tyK 7) (vX n m s c v) (ok_vX n m s c v) _).sub (.cons (.refl _) (.cons (sub_parts n m s c v) .nil))).mono ?_))
                    rintro _ _ ⟨rfl, rfl⟩
                    rw [parts_law (by omega)]
                    refine wOps_op rfl (op_move rfl rfl ?_)
                    refine wOps_op rfl (op_booleq rfl Try.underlying4 rfl rfl ?_)
                    refine wOps_op rfl (op_assign rfl rfl ?_)
                    refine wOps_nil ?_
                    refine mwp_ret ?_
                    exact ret_tmp (.inr rfl) Try.results5 rfl (.of_eq (by cases n <;> cases m <;> cases s <;> cases c <;> cases v <;> simp_all [wantF])) (.bool _) ⟨rfl, rfl⟩
                ·
                  refine wOps_skip rfl ?_
                  refine wOps_skip rfl ?_
                  refine wOps_op rfl (op_pick rfl rfl rfl ?_)
                  refine wOps_op rfl (op_move rfl rfl ?_)
                  refine wOps_skip rfl ?_
                  refine wOps_skip rfl ?_
                  refine wOps_op rfl (op_pick rfl rfl rfl ?_)
                  refine wOps_op rfl (op_assign rfl rfl ?_)
                  refine wOps_nil ?_
                  refine mwp_seq ?_
                  refine mwp_region rfl ?_
                  refine wOps_op rfl (op_load' rfl rfl rfl ta24 rfl ?_)
                  refine wOps_op rfl (op_load' rfl rfl rfl ta30 rfl ?_)
                  refine wOps_op rfl (op_call rfl rfl rfl co9 (((valIs_spec (tyK 7) (vX n m s c v) (ok_vX n m s c v) _).sub (.cons (.refl _) (.cons (sub_parts n m s c v) .nil))).mono ?_))
                  rintro _ _ ⟨rfl, rfl⟩
                  rw [parts_law (by omega)]
                  refine wOps_op rfl (op_move rfl rfl ?_)
                  refine wOps_op rfl (op_booleq rfl Try.underlying4 rfl rfl ?_)
                  refine wOps_op rfl (op_assign rfl rfl ?_)
                  refine wOps_nil ?_
                  refine mwp_ret ?_
                  exact ret_tmp (.inr rfl) Try.results5 rfl (.of_eq (by cases n <;> cases m <;> cases s <;> cases c <;> cases v <;> simp_all [wantF])) (.bool _) ⟨rfl, rfl⟩
              ·
                refine wOps_skip rfl ?_
                refine wOps_skip rfl ?_
                refine wOps_op rfl (op_pick rfl rfl rfl ?_)
                refine wOps_op rfl (op_move rfl rfl ?_)
                refine wOps_skip rfl ?_
                refine wOps_skip rfl ?_
                refine wOps_op rfl (op_pick rfl rfl rfl ?_)
                refine wOps_op rfl (op_move rfl rfl ?_)
                refine wOps_skip rfl ?_
                refine wOps_skip rfl ?_
                refine wOps_op rfl (op_pick rfl rfl rfl ?_)
                refine wOps_op rfl (op_assign rfl rfl ?_)
                refine wOps_nil ?_
                refine mwp_seq ?_
                refine mwp_region rfl ?_
                refine wOps_op rfl (op_load' rfl rfl rfl ta24 rfl ?_)
                refine wOps_op rfl (op_load' rfl rfl rfl ta30 rfl ?_)
                refine wOps_op rfl (op_call rfl rfl rfl co9 (((valIs_spec (tyK 7) (vX n m s c v) (ok_vX n m s c v) _).sub (.cons (.refl _) (.cons (sub_parts n m s c v) .nil))).mono ?_))
                rintro _ _ ⟨rfl, rfl⟩
                rw [parts_law (by omega)]
                refine wOps_op rfl (op_move rfl rfl ?_)
                refine wOps_op rfl (op_booleq rfl Try.underlying4 rfl rfl ?_)
                refine wOps_op rfl (op_assign rfl rfl ?_)
                refine wOps_nil ?_
                refine mwp_ret ?_
                exact ret_tmp (.inr rfl) Try.results5 rfl (.of_eq (by cases n <;> cases m <;> cases s <;> cases c <;> cases v <;> simp_all [wantF])) (.bool _) ⟨rfl, rfl⟩
  ·
    refine mcalls_body Try.func5 rfl Try.ntmps5 (Nat.le_of_ble_eq_true rfl) ?_
    refine mwp_seq ?_
    refine mwp_region rfl ?_
    refine wOps_op rfl (op_assign rfl rfl ?_)
    refine wOps_nil ?_
    refine mwp_seq ?_
    refine mwp_seq ?_
    refine mwp_region rfl ?_
    refine wOps_op rfl (op_call rfl rfl rfl co8 ((knownV_spec _).mono ?_))
    rintro _ _ ⟨rfl, rfl⟩
    refine wOps_op rfl (op_not rfl rfl ?_)
    refine wOps_nil ?_
    refine mwp_cond_f rfl (rfl) ?_
    refine mwp_skip ?_
    refine mwp_seq ?_
    refine mwp_region rfl ?_
    refine wOps_op rfl (op_move rfl rfl ?_)
    refine wOps_op rfl (op_rem rfl rfl rfl (by decide) (rem8 h) ?_)
    refine wOps_op rfl (op_convInt rfl Try.underlying5 Try.underlying3 rfl (show IntKind.i64.wrap 7 = 7 from rfl) ?_)
    refine wOps_op rfl (op_arith rfl rfl rfl (show intArith .add .i64 7 1 = some 8 from rfl) ?_)
    refine wOps_op rfl (op_assign rfl rfl ?_)
    refine wOps_nil ?_
    refine mwp_seq ?_
    refine mwp_region rfl ?_
    refine wOps_op rfl (op_build rfl Try.underlying30 zm30 .nil (by kernel_rfl) ?_)
    refine wOps_op rfl (op_alloc' rfl zm30 rfl rfl ?_)
    refine wOps_op rfl (op_store' rfl rfl rfl rfl sz30 rfl rfl (Nat.le_of_ble_eq_true rfl) rfl ?_)
    refine wOps_nil ?_
    refine mwp_join (E := [(1, .bool n), (2, .bool m), (3, .bool s), (4, .bool c), (5, .bool v), (13, .int .i64 8), (14, .ref (S.length + 0) 0)]) (S ++ [.cells [cN n, .int .u64 0, .lst0, .lst0, .lst0]]) ?_ ?_
    ·
      refine mwp_seq ?_
      refine mwp_region rfl ?_
      refine wOps_op rfl (op_move rfl rfl ?_)
      refine wOps_nil ?_
      refine mwp_cond_split rfl (fun h24 => ?_) (fun h24 => ?_)
      · -- yes
        refine mwp_region rfl ?_
        refine wOps_op rfl (op_fieldAddr_ref rfl rfl fo30_0 ?_)
        refine wOps_op rfl (op_store' rfl rfl rfl rfl sz25 rfl rfl (Nat.le_of_ble_eq_true rfl) rfl ?_)
        refine wOps_nil ?_
        exact ⟨rfl, by rw [h24]; rfl, (.keep rfl (.keep rfl (.keep rfl (.keep rfl (.keep rfl (.keep rfl (.keep rfl .nil)))))))⟩
      · -- no
        refine mwp_skip ?_
        exact ⟨rfl, by rw [h24]; rfl, (.keep rfl (.keep rfl (.keep rfl (.keep rfl (.keep rfl (.keep rfl (.keep rfl .nil)))))))⟩
    ·
      refine mwp_join (E := [(1, .bool n), (2, .bool m), (3, .bool s), (4, .bool c), (5, .bool v), (13, .int .i64 8), (14, .ref (S.length + 0) 0)]) (S ++ [.cells [cN n, cN m, .lst0, .lst0, .lst0]]) ?_ ?_
      ·
        refine mwp_seq ?_
        refine mwp_region rfl ?_
        refine wOps_op rfl (op_move rfl rfl ?_)
        refine wOps_nil ?_
        refine mwp_cond_split rfl (fun h26 => ?_) (fun h26 => ?_)
        · -- yes
          refine mwp_region rfl ?_
          refine wOps_op rfl (op_fieldAddr_ref rfl rfl fo30_1 ?_)
          refine wOps_op rfl (op_store' rfl rfl rfl rfl sz25 rfl rfl (Nat.le_of_ble_eq_true rfl) rfl ?_)
          refine wOps_nil ?_
          exact ⟨rfl, by rw [h26]; rfl, (.keep rfl (.keep rfl (.keep rfl (.keep rfl (.keep rfl (.keep rfl (.keep rfl .nil)))))))⟩
        · -- no
          refine mwp_skip ?_
          exact ⟨rfl, by rw [h26]; rfl, (.keep rfl (.keep rfl (.keep rfl (.keep rfl (.keep rfl (.keep rfl (.keep rfl .nil)))))))⟩
      ·
        refine mwp_join (E := [(1, .bool n), (2, .bool m), (3, .bool s), (4, .bool c), (5, .bool v), (13, .int .i64 8), (14, .ref (S.length + 0) 0)]) (S ++ [.cells [cN n, cN m, cS s, .lst0, .lst0]]) ?_ ?_
        ·
          refine mwp_seq ?_
          refine mwp_region rfl ?_
          refine wOps_op rfl (op_move rfl rfl ?_)
          refine wOps_nil ?_
          refine mwp_cond_split rfl (fun h28 => ?_) (fun h28 => ?_)
          · -- yes
            refine mwp_region rfl ?_
            refine wOps_op rfl (op_buildSlice rfl Try.underlying26 el9 rfl rfl (by decide) (by decide) rfl rfl ?_)
            refine wOps_op rfl (op_fieldAddr_ref rfl rfl fo30_2 ?_)
            refine wOps_op rfl (op_store' rfl rfl rfl rfl sz26 rfl rfl (Nat.le_of_ble_eq_true rfl) rfl ?_)
            refine wOps_nil ?_
            exact ⟨rfl, by rw [h28]; rfl, (.keep rfl (.keep rfl (.keep rfl (.keep rfl (.keep rfl (.keep rfl (.keep rfl .nil)))))))⟩
          · -- no
            refine mwp_skip ?_
            exact ⟨rfl, by rw [h28]; rfl, (.keep rfl (.keep rfl (.keep rfl (.keep rfl (.keep rfl (.keep rfl (.keep rfl .nil)))))))⟩
        ·
          refine mwp_join (E := [(1, .bool n), (2, .bool m), (3, .bool s), (4, .bool c), (5, .bool v), (13, .int .i64 8), (14, .ref (S.length + 0) 0)]) (S ++ [.cells [cN n, cN m, cS s, cC c, .lst0]]) ?_ ?_
          ·
            refine mwp_seq ?_
            refine mwp_region rfl ?_
            refine wOps_op rfl (op_move rfl rfl ?_)
            refine wOps_nil ?_
            refine mwp_cond_split rfl (fun h31 => ?_) (fun h31 => ?_)
            · -- yes
              refine mwp_region rfl ?_
              refine wOps_op rfl (op_build rfl Try.underlying39 zm39 (.cons fo39_0 sz3 rfl rfl (Nat.le_of_ble_eq_true rfl) (.cons fo39_1 sz25 rfl rfl (Nat.le_of_ble_eq_true rfl) .nil)) (by kernel_rfl) ?_)
              refine wOps_op rfl (op_buildSlice rfl Try.underlying40 el39 rfl rfl (by decide) (by decide) rfl rfl ?_)
              refine wOps_op rfl (op_buildSlice rfl Try.underlying27 el40 rfl rfl (by decide) (by decide) rfl rfl ?_)
              refine wOps_op rfl (op_fieldAddr_ref rfl rfl fo30_3 ?_)
              refine wOps_op rfl (op_store' rfl rfl rfl rfl sz27 rfl rfl (Nat.le_of_ble_eq_true rfl) rfl ?_)
              refine wOps_nil ?_
              exact ⟨rfl, by rw [h31]; rfl, (.keep rfl (.keep rfl (.keep rfl (.keep rfl (.keep rfl (.keep rfl (.keep rfl .nil)))))))⟩
            · -- no
              refine mwp_skip ?_
              exact ⟨rfl, by rw [h31]; rfl, (.keep rfl (.keep rfl (.keep rfl (.keep rfl (.keep rfl (.keep rfl (.keep rfl .nil)))))))⟩
          ·
            refine mwp_join (E := [(1, .bool n), (2, .bool m), (3, .bool s), (4, .bool c), (5, .bool v), (13, .int .i64 8), (14, .ref (S.length + 0) 0)]) (S ++ [.cells [cN n, cN m, cS s, cC c, cW v]]) ?_ ?_
            ·
              refine mwp_seq ?_
              refine mwp_region rfl ?_
              refine wOps_op rfl (op_move rfl rfl ?_)
              refine wOps_nil ?_
              refine mwp_cond_split rfl (fun h36 => ?_) (fun h36 => ?_)
              · -- yes
                refine mwp_region rfl ?_
                refine wOps_op rfl (op_viewTo (y := encV vOne) (op_build rfl Try.underlying30 zm30 (.cons fo30_0 sz25 rfl rfl (Nat.le_of_ble_eq_true rfl) .nil) (by kernel_rfl) ⟨rfl, rfl⟩) (.agg (.cons (.refl _) (.cons (.refl _) (.cons (.nil 1) (.cons (.nil 1) (.cons (.nil 5) .nil)))))) ?_)
                refine wOps_op rfl (op_buildSlice rfl Try.underlying28 el30 rfl rfl (by decide) (by decide) rfl rfl ?_)
                refine wOps_op rfl (op_fieldAddr_ref rfl rfl fo30_4 ?_)
                refine wOps_op rfl (op_store' rfl rfl rfl rfl sz28 rfl rfl (Nat.le_of_ble_eq_true rfl) rfl ?_)
                refine wOps_nil ?_
                exact ⟨rfl, by rw [h36]; rfl, (.keep rfl (.keep rfl (.keep rfl (.keep rfl (.keep rfl (.keep rfl (.keep rfl .nil)))))))⟩
              · -- no
                refine mwp_skip ?_
                exact ⟨rfl, by rw [h36]; rfl, (.keep rfl (.keep rfl (.keep rfl (.keep rfl (.keep rfl (.keep rfl (.keep rfl .nil)))))))⟩
            ·
              refine mwp_seq ?_
              refine mwp_region rfl ?_
              refine wOps_op rfl (op_move rfl rfl ?_)
              refine wOps_op rfl (op_call rfl rfl rfl co20 (((of_spec 8 [] _).sub (.cons (.refl _) (.cons (.nil 2) .nil))).mono ?_))
              rintro _ _ ⟨rfl, rfl⟩
              refine wOps_op rfl (op_alloc' rfl zm24 rfl rfl ?_)
              refine wOps_op rfl (op_store' rfl rfl rfl rfl sz24 rfl rfl (Nat.le_of_ble_eq_true rfl) rfl ?_)
              refine wOps_op rfl (op_assign rfl rfl ?_)
              refine wOps_nil ?_
              refine mwp_seq ?_
              refine mwp_seq ?_
              refine mwp_region rfl ?_
              refine wOps_op rfl (op_move rfl rfl ?_)
              refine wOps_nil ?_
              refine mwp_block ?_
              refine mwp_seq ?_
              refine mwp_seq ?_
              refine mwp_region rfl ?_
              refine wOps_op rfl (op_cmp rfl rfl rfl rfl ?_)
              refine wOps_op rfl (op_assign rfl rfl ?_)
              refine wOps_nil ?_
              refine mwp_cond_f rfl (rfl) ?_
              refine mwp_region rfl ?_
              refine wOps_op rfl (op_cmp rfl rfl rfl rfl ?_)
              refine wOps_op rfl (op_assign rfl rfl ?_)
              refine wOps_nil ?_
              refine mwp_cond_f rfl (rfl) ?_
              refine mwp_seq ?_
              refine mwp_region rfl ?_
              refine wOps_op rfl (op_cmp rfl rfl rfl rfl ?_)
              refine wOps_op rfl (op_assign rfl rfl ?_)
              refine wOps_nil ?_
              refine mwp_cond_f rfl (rfl) ?_
              refine mwp_seq ?_
              refine mwp_region rfl ?_
              refine wOps_op rfl (op_cmp rfl rfl rfl rfl ?_)
              refine wOps_op rfl (op_assign rfl rfl ?_)
              refine wOps_nil ?_
              refine mwp_cond_f rfl (rfl) ?_
              refine mwp_seq ?_
              refine mwp_region rfl ?_
              refine wOps_op rfl (op_cmp rfl rfl rfl rfl ?_)
              refine wOps_op rfl (op_assign rfl rfl ?_)
              refine wOps_nil ?_
              refine mwp_cond_f rfl (rfl) ?_
              refine mwp_seq ?_
              refine mwp_region rfl ?_
              refine wOps_op rfl (op_cmp rfl rfl rfl rfl ?_)
              refine wOps_op rfl (op_assign rfl rfl ?_)
              refine wOps_nil ?_
              refine mwp_cond_f rfl (rfl) ?_
              refine mwp_seq ?_
              refine mwp_region rfl ?_
              refine wOps_op rfl (op_cmp rfl rfl rfl rfl ?_)
              refine wOps_op rfl (op_assign rfl rfl ?_)
              refine wOps_nil ?_
              refine mwp_cond_f rfl (rfl) ?_
              refine mwp_seq ?_
              refine mwp_region rfl ?_
              refine wOps_op rfl (op_cmp rfl rfl rfl rfl ?_)
              refine wOps_op rfl (op_assign rfl rfl ?_)
              refine wOps_nil ?_
              refine mwp_cond_t rfl (rfl) ?_
              refine mwp_region rfl ?_
              refine wOps_op rfl (op_move rfl rfl ?_)
              refine wOps_op rfl (op_call rfl rfl rfl co20 (((of_spec 1 [] _).sub (.cons (.refl _) (.cons (.nil 2) .nil))).mono ?_))
              rintro _ _ ⟨rfl, rfl⟩
              refine wOps_op rfl (op_buildSlice rfl Try.underlying22 el24 rfl rfl (by decide) (by decide) rfl rfl ?_)
              refine wOps_op rfl (op_call rfl rfl rfl co20 ((of_spec 8 [.mk 1 []] _).mono ?_))
              rintro _ _ ⟨rfl, rfl⟩
              refine wOps_op rfl (op_move rfl rfl ?_)
              refine wOps_op rfl (op_not rfl rfl ?_)
              refine wOps_op rfl (op_move rfl rfl ?_)
              refine wOps_case (fun h147 => ?_) (fun h147 => ?_)
              ·
                refine wOps_op rfl (op_move rfl rfl ?_)
                refine wOps_op rfl (op_not rfl rfl ?_)
                refine wOps_op rfl (op_pick rfl rfl rfl ?_)
                refine wOps_op rfl (op_move rfl rfl ?_)
                refine wOps_case (fun h151 => ?_) (fun h151 => ?_)
                ·
                  refine wOps_op rfl (op_move rfl rfl ?_)
                  refine wOps_op rfl (op_not rfl rfl ?_)
                  refine wOps_op rfl (op_pick rfl rfl rfl ?_)
                  refine wOps_op rfl (op_move rfl rfl ?_)
                  refine wOps_case (fun h155 => ?_) (fun h155 => ?_)
                  ·
                    refine wOps_op rfl (op_move rfl rfl ?_)
                    refine wOps_op rfl (op_move rfl rfl ?_)
                    refine wOps_op rfl (op_booleq rfl Try.underlying4 rfl rfl ?_)
                    refine wOps_op rfl (op_pick rfl rfl rfl ?_)
                    refine wOps_op rfl (op_store' rfl rfl rfl rfl sz24 rfl rfl (Nat.le_of_ble_eq_true rfl) rfl ?_)
                    refine wOps_op rfl (op_assign rfl rfl ?_)
                    refine wOps_nil ?_
                    refine mwp_seq ?_
                    refine mwp_region rfl ?_
                    refine wOps_op rfl (op_load' rfl rfl rfl ta24 rfl ?_)
                    refine wOps_op rfl (op_load' rfl rfl rfl ta30 rfl ?_)
                    refine wOps_op rfl (op_call rfl rfl rfl co9 (((valIs_spec (tyK 8) (vX n m s c v) (ok_vX n m s c v) _).sub (.cons (.refl _) (.cons (sub_parts n m s c v) .nil))).mono ?_))
                    rintro _ _ ⟨rfl, rfl⟩
                    rw [parts_law (by omega)]
                    refine wOps_op rfl (op_move rfl rfl ?_)
                    refine wOps_op rfl (op_booleq rfl Try.underlying4 rfl rfl ?_)
                    refine wOps_op rfl (op_assign rfl rfl ?_)
                    refine wOps_nil ?_
                    refine mwp_ret ?_
                    exact ret_tmp (.inr rfl) Try.results5 rfl (.of_eq (by cases n <;> cases m <;> cases s <;> cases c <;> cases v <;> simp_all [wantF])) (.bool _) ⟨rfl, rfl⟩
                  ·
                    refine wOps_skip rfl ?_
                    refine wOps_skip rfl ?_
                    refine wOps_skip rfl ?_
                    refine wOps_op rfl (op_pick rfl rfl rfl ?_)
                    refine wOps_op rfl (op_store' rfl rfl rfl rfl sz24 rfl rfl (Nat.le_of_ble_eq_true rfl) rfl ?_)
                    refine wOps_op rfl (op_assign rfl rfl ?_)
                    refine wOps_nil ?_
                    refine mwp_seq ?_
                    refine mwp_region rfl ?_
                    refine wOps_op rfl (op_load' rfl rfl rfl ta24 rfl ?_)
                    refine wOps_op rfl (op_load' rfl rfl rfl ta30 rfl ?_)
                    refine wOps_op rfl (op_call rfl rfl rfl co9 (((valIs_spec (tyK 8) (vX n m s c v) (ok_vX n m s c v) _).sub (.cons (.refl _) (.cons (sub_parts n m s c v) .nil))).mono ?_))
                    rintro _ _ ⟨rfl, rfl⟩
                    rw [parts_law (by omega)]
                    refine wOps_op rfl (op_move rfl rfl ?_)
                    refine wOps_op rfl (op_booleq rfl Try.underlying4 rfl rfl ?_)
                    refine wOps_op rfl (op_assign rfl rfl ?_)
                    refine wOps_nil ?_
                    refine mwp_ret ?_
                    exact ret_tmp (.inr rfl) Try.results5 rfl (.of_eq (by cases n <;> cases m <;> cases s <;> cases c <;> cases v <;> simp_all [wantF])) (.bool _) ⟨rfl, rfl⟩
                ·
                  refine wOps_skip rfl ?_
                  refine wOps_skip rfl ?_
                  refine wOps_op rfl (op_pick rfl rfl rfl ?_)
                  refine wOps_op rfl (op_move rfl rfl ?_)
                  refine wOps_skip rfl ?_
                  refine wOps_skip rfl ?_
                  refine wOps_skip rfl ?_
                  refine wOps_op rfl (op_pick rfl rfl rfl ?_)
                  refine wOps_op rfl (op_store' rfl rfl rfl rfl sz24 rfl rfl (Nat.le_of_ble_eq_true rfl) rfl ?_)
                  refine wOps_op rfl (op_assign rfl rfl ?_)
                  refine wOps_nil ?_
                  refine mwp_seq ?_
                  refine mwp_region rfl ?_
                  refine wOps_op rfl (op_load' rfl rfl rfl ta24 rfl ?_)
                  refine wOps_op rfl (op_load' rfl rfl rfl ta30 rfl ?_)
                  refine wOps_op rfl (op_call rfl rfl rfl co9 (((valIs_spec (tyK 8) (vX n m s c v) (ok_vX n m s c v) _).sub (.cons (.refl _) (.cons (sub_parts n m s c v) .nil))).mono ?_))
                  rintro _ _ ⟨rfl, rfl⟩
                  rw [parts_law (by omega)]
                  refine wOps_op rfl (op_move rfl rfl ?_)
                  refine wOps_op rfl (op_booleq rfl Try.underlying4 rfl rfl ?_)
                  refine wOps_op rfl (op_assign rfl rfl ?_)
                  refine wOps_nil ?_
                  refine mwp_ret ?_
                  exact ret_tmp (.inr rfl) Try.results5 rfl (.of_eq (by cases n <;> cases m <;> cases s <;> cases c <;> cases v <;> simp_all [wantF])) (.bool _) ⟨rfl, rfl⟩
              ·
                refine wOps_skip rfl ?_
                refine wOps_skip rfl ?_
                refine wOps_op rfl (op_pick rfl rfl rfl ?_)
                refine wOps_op rfl (op_move rfl rfl ?_)
                refine wOps_skip rfl ?_
                refine wOps_skip rfl ?_
                refine wOps_op rfl (op_pick rfl rfl rfl ?_)
                refine wOps_op rfl (op_move rfl rfl ?_)
                refine wOps_skip rfl ?_
                refine wOps_skip rfl ?_
                refine wOps_skip rfl ?_
                refine wOps_op rfl (op_pick rfl rfl rfl ?_)
                refine wOps_op rfl (op_store' rfl rfl rfl rfl sz24 rfl rfl (Nat.le_of_ble_eq_true rfl) rfl ?_)
                refine wOps_op rfl (op_assign rfl rfl ?_)
                refine wOps_nil ?_
                refine mwp_seq ?_
                refine mwp_region rfl ?_
                refine wOps_op rfl (op_load' rfl rfl rfl ta24 rfl ?_)
                refine wOps_op rfl (op_load' rfl rfl rfl ta30 rfl ?_)
                refine wOps_op rfl (op_call rfl rfl rfl co9 (((valIs_spec (tyK 8) (vX n m s c v) (ok_vX n m s c v) _).sub (.cons (.refl _) (.cons (sub_parts n m s c v) .nil))).mono ?_))
                rintro _ _ ⟨rfl, rfl⟩
                rw [parts_law (by omega)]
                refine wOps_op rfl (op_move rfl rfl ?_)
                refine wOps_op rfl (op_booleq rfl Try.underlying4 rfl rfl ?_)
                refine wOps_op rfl (op_assign rfl rfl ?_)
                refine wOps_nil ?_
                refine mwp_ret ?_
                exact ret_tmp (.inr rfl) Try.results5 rfl (.of_eq (by cases n <;> cases m <;> cases s <;> cases c <;> cases v <;> simp_all [wantF])) (.bool _) ⟨rfl, rfl⟩
end Go.Proofs.Ytihpnfpdocnniaa
