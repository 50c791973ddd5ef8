/-
  Walks of what writes a record as bytes: its number, its text, its hash (layers 9 and 14).
-/
import Derived.Test.YtddcpfbmoahnpaaTapP
import Derived.Test.YtddcpfbmoahnpaaFacts
set_option linter.unusedVariables false
set_option linter.unusedSimpArgs false
set_option maxHeartbeats 400000
namespace Go.MV
open Go Go.RowKit
theorem quo128 {m : Nat} (h : m < 18446744073709551616) : IntKind.u64.wrap (Int.tdiv (m : Int) 128) = ((m / 128 : Nat) : Int) := by
  have e : Int.tdiv (m : Int) 128 = ((m / 128 : Nat) : Int) := rfl
  rw [e, wrap_u64 (by omega)]
theorem rem128 (m : Nat) : Int.tmod (m : Int) 128 = ((m % 128 : Nat) : Int) := rfl
theorem add128 (m : Nat) : intArith .add .u64 ((m % 128 : Nat) : Int) 128 = some ((m % 128 + 128 : Nat) : Int) := by
  show some (IntKind.u64.wrap (((m % 128 : Nat) : Int) + 128)) = _
  rw [wrap_u64 (by omega)]
  rfl
theorem u8_conv {m : Nat} (h : m < 256) : IntKind.u8.wrap (m : Int) = ((UInt8.ofNat m).toNat : Int) := by
  rw [wrap_u8 (by omega), u8_toNat h]
theorem u8_wrap (h : Int) : IntKind.u8.wrap h = ((UInt8.ofNat (IntKind.u8.wrap h).toNat).toNat : Int) := by
  have e : 0 ≤ IntKind.u8.wrap h ∧ IntKind.u8.wrap h < 256 := by
    have e1 : IntKind.u8.wrap h = h % 256 := rfl
    rw [e1]; omega
  rw [u8_toNat (by omega)]
  omega
theorem u64_byte (b : UInt8) : IntKind.u64.wrap (b.toNat : Int) = (b.toNat : Int) := by
  have := b.toNat_lt
  rw [wrap_u64 (by omega)]
theorem i64_byte {m : Nat} (h : m < 256) : IntKind.i64.wrap (m : Int) = (m : Int) := by
  have e : IntKind.i64.wrap (m : Int) = if (m : Int) % 18446744073709551616 ≥ 9223372036854775808 then (m : Int) % 18446744073709551616 - 18446744073709551616 else (m : Int) % 18446744073709551616 := by
    unfold IntKind.wrap
    simp [IntKind.signed, IntKind.bits]
  rw [e]
  split <;> omega
theorem numB_more {m : Nat} (h : 128 ≤ m) : numB m = UInt8.ofNat (m % 128 + 128) :: numB (m / 128) := by rw [numB, dif_neg (by omega)]
theorem numB_last {m : Nat} (h : m < 128) : numB m = [UInt8.ofNat m] := by rw [numB, dif_pos h]
theorem leB_snoc (h : Int) : ∀ (k : Nat), ∃ g, leB (k + 1) h = leB k h ++ [UInt8.ofNat (IntKind.u8.wrap g).toNat] := by
  intro k
  induction k generalizing h with
  | zero => exact ⟨h, rfl⟩
  | succ k ih =>
    obtain ⟨g, e⟩ := ih (h.fdiv (2 ^ min (8 : Int).toNat IntKind.u64.bits))
    exact ⟨g, by rw [leB, e]; rfl⟩
theorem hash_take {b : Bs} {i : Nat} {c : UInt8} (h : b[i]? = some c) : hashB (b.take (i + 1)) = hashStep (hashB (b.take i)) c := by
  rw [List.take_add_one, h]
  simp [hashB]
theorem drop_at {α : Type} {l : List α} {i : Nat} {a : α} (h : l[i]? = some a) : l.drop i = a :: l.drop (i + 1) := by
  obtain ⟨hlt, e⟩ := List.getElem?_eq_some_iff.1 h
  rw [List.drop_eq_getElem_cons hlt, e]
theorem wmul {a b c : Nat} (h : a * b = c) (hc : c < 9223372036854775808) : intArith .mul .i64 (a : Int) (b : Int) = some (c : Int) := by
  show some (IntKind.i64.wrap ((a : Int) * (b : Int))) = _
  have e : (a : Int) * (b : Int) = (c : Int) := by rw [← h]; exact (Int.natCast_mul a b).symm
  rw [e, wrap_i64 (by omega)]
end Go.MV
namespace Go.Proofs.Ytddcpfbmoahnpaa
open Go Go.MV


theorem codeNum_spec (n : Nat) (hn : n < 18446744073709551616) (hl : (numB n).length ≤ 100) (S : MS) : MCalls Try.prog 41 [.int .u64 (n : Int)] S fun v σ' => v = .str (bs (numB n)) ∧ σ' = S := by
  refine mcalls_body Try.func41 rfl Try.ntmps41 (Nat.le_of_ble_eq_true rfl) ?_
  refine mwp_seq ?_
  refine mwp_region rfl ?_   -- region 0
  refine wOps_op rfl (op_assign rfl rfl ?_)   -- t2 ← assign const string ('rec', {'data': ('arr', [])})
  refine wOps_nil ?_
  refine mwp_seq ?_
  refine mwp_region rfl ?_   -- region 1
  refine wOps_op rfl (op_assign rfl rfl ?_)   -- t3 ← assign const slice none 0 0
  refine wOps_nil ?_
  refine mwp_seq ?_
  refine mwp_block ?_   -- block 0
  refine mwp_row0 3 5 1 rfl (Nat.le_refl _) rfl rfl ?_
  refine mwp_loopKJ (α := Nat × Bs) [] (fun x => [(0, .int .u64 (x.1 : Int)), (3, .lst (some (S.length + 0)) 1 (x.2.map encY))]) (fun x => [.row 5 1 x.2.length]) (fun x => x.2 ++ numB x.1 = numB n ∧ x.1 ≤ n) (fun x => x.1) (⟨n, []⟩) (Nat.le_refl _) (.nil) (.keep rfl (.keep rfl (.nil))) (⟨rfl, Nat.le_refl _⟩) rfl ?_
  rintro ⟨m, out⟩ ⟨he, hm⟩
  dsimp only at he hm ⊢
  have hol : out.length ≤ (numB n).length := by rw [← he, List.length_append]; omega
  refine mwp_seq ?_
  refine mwp_seq ?_
  refine mwp_region rfl ?_   -- region 2
  refine wOps_op rfl (op_move rfl rfl ?_)   -- t4 ← move tmp 0
  refine wOps_op rfl (op_cmp rfl rfl rfl rfl ?_)   -- t5 ← binOp geq 72 tmp 4 const int u64 128 72
  refine wOps_nil ?_
  refine mwp_cond_split rfl (fun h5 => ?_) (fun h5 => ?_)   -- if t5
  · -- yes
    have hge : 128 ≤ m := by simp at h5; omega
    refine mwp_skip ?_
    refine mwp_seq ?_
    refine mwp_block ?_   -- block 1
    refine mwp_region rfl ?_   -- region 4
    refine wOps_op rfl (op_move rfl rfl ?_)   -- t8 ← move tmp 3
    refine wOps_op rfl (op_move rfl rfl ?_)   -- t9 ← move tmp 0
    refine wOps_op rfl (op_rem rfl rfl rfl (by decide) (rem128 m) ?_)   -- t10 ← binOp rem 72 tmp 9 const int u64 128 72
    refine wOps_op rfl (op_arith rfl rfl rfl (add128 m) ?_)   -- t11 ← binOp add 72 tmp 10 const int u64 128 72
    refine wOps_op rfl (op_convInt rfl Try.underlying72 Try.underlying5 rfl (u8_conv (show m % 128 + 128 < 256 by omega)) ?_)   -- t12 ← convert 72 5 tmp 11
    refine wOps_op rfl (op_buildSlice rfl Try.underlying37 el5 rfl rfl (by decide) (by decide) rfl rfl ?_)   -- t13 ← buildSlice 37 1 [(0,tmp 12)]
    refine wOps_op rfl (op_append' rfl Try.underlying37 el5 rfl rfl rfl (by simp) (by simp only [List.length_append, List.length_map, List.length_cons, List.length_nil]; omega) (by simp only [List.length_append, List.length_map, List.length_cons, List.length_nil]; omega) rfl ?_)   -- t14 ← call ('rec', {'callee': ('app', 'builtin', [('id', 'Go.Builtin.ap
    refine wOps_op rfl (op_assign rfl rfl ?_)   -- t3 ← assign tmp 14
    refine wOps_nil ?_
    refine mwp_region rfl ?_   -- region 3
    refine wOps_op rfl (op_move rfl rfl ?_)   -- t6 ← move tmp 0
    refine wOps_op rfl (op_quo rfl rfl rfl (by decide) (quo128 (by omega)) ?_)   -- t7 ← binOp quo 72 tmp 6 const int u64 128 72
    refine wOps_op rfl (op_assign rfl rfl ?_)   -- t0 ← assign tmp 7
    refine wOps_nil ?_
    refine ⟨⟨m / 128, out ++ [UInt8.ofNat (m % 128 + 128)]⟩, _, by dsimp only; omega, ⟨by dsimp only; rw [← he, numB_more hge]; simp, by dsimp only; omega⟩, by rw [List.length_append]; rfl, .new trivial .nil, (.nil), (.new' rfl (rfl) (.int _ _) (.new' rfl (by rw [List.map_append]; rfl) (.lst _ _ _ (fun s hs => by injection hs with hs; simp; omega) (by rw [flat_encY]; intro y hy; obtain ⟨z, _, rfl⟩ := List.mem_map.1 hy; exact .int _ _)) (.nil)))⟩
  · -- no
    have hlt : m < 128 := by simp at h5; omega
    refine mwp_exit ?_
    refine mwp_seq ?_
    refine mwp_region rfl ?_   -- region 5
    refine wOps_op rfl (op_move rfl rfl ?_)   -- t15 ← move tmp 3
    refine wOps_op rfl (op_move rfl rfl ?_)   -- t16 ← move tmp 0
    refine wOps_op rfl (op_convInt rfl Try.underlying72 Try.underlying5 rfl (u8_conv (show m < 256 by omega)) ?_)   -- t17 ← convert 72 5 tmp 16
    refine wOps_op rfl (op_buildSlice rfl Try.underlying37 el5 rfl rfl (by decide) (by decide) rfl rfl ?_)   -- t18 ← buildSlice 37 1 [(0,tmp 17)]
    refine wOps_op rfl (op_append' rfl Try.underlying37 el5 rfl rfl rfl (by simp) (by simp only [List.length_append, List.length_map, List.length_cons, List.length_nil]; omega) (by simp only [List.length_append, List.length_map, List.length_cons, List.length_nil]; omega) rfl ?_)   -- t19 ← call ('rec', {'callee': ('app', 'builtin', [('id', 'Go.Builtin.ap
    refine wOps_op rfl (op_conv_bytes (l := out ++ [UInt8.ofNat m]) rfl Try.underlying37 Try.underlying5 Try.underlying9 rfl (by rw [List.map_append]; rfl) ?_)   -- t20 ← convert 37 9 tmp 19
    refine wOps_op rfl (op_assign rfl rfl ?_)   -- t2 ← assign tmp 20
    refine wOps_nil ?_
    refine mwp_ret ?_
    exact ret_tmp (.inr rfl) Try.results41 rfl (.of_eq (by rw [← he, numB_last hlt])) (.str _) ⟨rfl, rfl⟩

theorem codeText_spec (s : Bs) (hs : s.length ≤ 1000000) (S : MS) : MCalls Try.prog 36 [.str (bs s)] S fun v σ' => v = .str (bs (textB s)) ∧ σ' = S := by
  refine mcalls_body Try.func36 rfl Try.ntmps36 (Nat.le_of_ble_eq_true rfl) ?_
  have hl := (numB_len (show s.length < 2097152 by omega)).2
  refine mwp_seq ?_
  refine mwp_region rfl ?_   -- region 0
  refine wOps_op rfl (op_assign rfl rfl ?_)   -- t2 ← assign const string ('rec', {'data': ('arr', [])})
  refine wOps_nil ?_
  refine mwp_seq ?_
  refine mwp_region rfl ?_   -- region 1
  refine wOps_op rfl (op_move rfl rfl ?_)   -- t3 ← move tmp 0
  refine wOps_op rfl (op_len_bs rfl Try.underlying9 rfl ?_)   -- t4 ← call ('rec', {'callee': ('app', 'builtin', [('id', 'Go.Builtin.le
  refine wOps_op rfl (op_convInt rfl Try.underlying3 Try.underlying72 rfl (wrap_u64 (by omega)) ?_)   -- t5 ← convert 3 72 tmp 4
  refine wOps_op rfl (op_call rfl rfl rfl co41 ((codeNum_spec s.length (by omega) (by omega) _).mono ?_))   -- t6 ← call ('rec', {'callee': ('app', 'value', [('app', 'func', [41])])
  rintro _ _ ⟨rfl, rfl⟩
  refine wOps_op rfl (op_move rfl rfl ?_)   -- t7 ← move tmp 0
  refine wOps_op rfl (op_strcat rfl rfl rfl (by omega) ?_)   -- t8 ← binOp add 9 tmp 6 tmp 7 9
  refine wOps_op rfl (op_assign rfl rfl ?_)   -- t2 ← assign tmp 8
  refine wOps_nil ?_
  refine mwp_ret ?_
  exact ret_tmp (.inr rfl) Try.results36 rfl (.of_eq (rfl)) (.str _) ⟨rfl, rfl⟩

theorem codeHash_spec (b : Bs) (hlen : b.length ≤ 2000000) (S : MS) : MCalls Try.prog 37 [.str (bs b)] S fun v σ' => v = .int .u64 (hashB b) ∧ σ' = S := by
  refine mcalls_body Try.func37 rfl Try.ntmps37 (Nat.le_of_ble_eq_true rfl) ?_
  have hlen' : b.length ≤ maxLen := by simp only [maxLen]; omega
  refine mwp_seq ?_
  refine mwp_region rfl ?_   -- region 0
  refine wOps_op rfl (op_assign rfl rfl ?_)   -- t2 ← assign const int u64 0
  refine wOps_nil ?_
  refine mwp_seq ?_
  refine mwp_region rfl ?_   -- region 1
  refine wOps_op rfl (op_assign rfl rfl ?_)   -- t3 ← assign const int u64 14695981039346656037
  refine wOps_nil ?_
  refine mwp_seq ?_
  refine mwp_seq ?_
  refine mwp_region rfl ?_   -- region 2
  refine wOps_op rfl (op_move rfl rfl ?_)   -- t5 ← move tmp 0
  refine wOps_op rfl (op_len_bs rfl Try.underlying9 rfl ?_)   -- t6 ← call ('rec', {'callee': ('app', 'builtin', [('id', 'Go.Builtin.le
  refine wOps_op rfl (op_move rfl rfl ?_)   -- t7 ← move const int i64 0
  refine wOps_nil ?_
  refine mwp_block ?_   -- block 0
  refine mwp_loopK (α := Nat) [(0, _), (6, _)] (fun i => [(7, .int .i64 (i : Int)), (3, .int .u64 (hashB (b.take i)))]) (fun i => []) (fun i => i ≤ b.length) (fun i => b.length - i) (0) (.keep rfl (.keep rfl (.nil))) (.keep rfl (.keep rfl (.nil))) (by omega) rfl ?_
  rintro i hi
  refine mwp_seq ?_
  refine mwp_region rfl ?_   -- region 3
  refine wOps_op rfl (op_cmp rfl rfl rfl rfl ?_)   -- t8 ← binOp lss 3 tmp 7 tmp 6 3
  refine wOps_nil ?_
  refine mwp_seq ?_
  refine mwp_cond_split rfl (fun h8 => ?_) (fun h8 => ?_)   -- if t8
  · -- yes
    have hlt : i < b.length := by simpa using h8
    obtain ⟨c, hs⟩ : ∃ q_, b[i]? = some q_ := ⟨_, List.getElem?_eq_getElem hlt⟩
    refine mwp_skip ?_
    refine mwp_seq ?_
    refine mwp_block ?_   -- block 1
    refine mwp_seq ?_
    refine mwp_region rfl ?_   -- region 4
    refine wOps_op rfl (op_move rfl rfl ?_)   -- t9 ← move tmp 7
    refine wOps_op rfl (op_assign rfl rfl ?_)   -- t4 ← assign tmp 9
    refine wOps_nil ?_
    refine mwp_region rfl ?_   -- region 5
    refine wOps_op rfl (op_move rfl rfl ?_)   -- t10 ← move tmp 3
    refine wOps_op rfl (op_move rfl rfl ?_)   -- t11 ← move tmp 0
    refine wOps_op rfl (op_move rfl rfl ?_)   -- t12 ← move tmp 4
    refine wOps_op rfl (op_index_str rfl Try.underlying9 rfl rfl rfl hs ?_)   -- t13 ← index 9 tmp 11 tmp 12
    refine wOps_op rfl (op_convInt rfl Try.underlying5 Try.underlying72 rfl (u64_byte c) ?_)   -- t14 ← convert 5 72 tmp 13
    refine wOps_op rfl (op_bits rfl rfl rfl rfl ?_)   -- t15 ← binOp xor 72 tmp 10 tmp 14 72
    refine wOps_op rfl (op_arith rfl rfl rfl rfl ?_)   -- t16 ← binOp mul 72 tmp 15 const int u64 1099511628211 72
    refine wOps_op rfl (op_assign rfl rfl ?_)   -- t3 ← assign tmp 16
    refine wOps_nil ?_
    refine mwp_region rfl ?_   -- region 6
    refine wOps_op rfl (op_arith rfl rfl rfl rfl ?_)   -- t17 ← binOp add 3 tmp 7 const int i64 1 3
    refine wOps_op rfl (op_move rfl rfl ?_)   -- t7 ← move tmp 17
    refine wOps_nil ?_
    refine ⟨i + 1, by omega, by omega, rfl, (.keep rfl (.keep rfl (.nil))), (.eq rfl (int_succ hlt hlen') (.eq rfl (by rw [hash_take hs]; rfl) (.nil)))⟩
  · -- no
    have hge : i = b.length := by simp at h8; omega
    refine mwp_exit ?_
    refine mwp_seq ?_
    refine mwp_region rfl ?_   -- region 7
    refine wOps_op rfl (op_move rfl rfl ?_)   -- t18 ← move tmp 3
    refine wOps_op rfl (op_assign rfl rfl ?_)   -- t2 ← assign tmp 18
    refine wOps_nil ?_
    refine mwp_ret ?_
    exact ret_tmp (.inr rfl) Try.results37 rfl (.of_eq (by rw [hge, List.take_length])) (.int _ _) ⟨rfl, rfl⟩

theorem laid_spec (r : Bs) (hr : r.length ≤ 1000000) (S : MS) : MCalls Try.prog 24 [.str (bs r)] S fun v σ' => v = .str (bs (laidB r)) ∧ σ' = S := by
  refine mcalls_body Try.func24 rfl Try.ntmps24 (Nat.le_of_ble_eq_true rfl) ?_
  have hll := laidB_len r
  have hnl := numB_len (show r.length < 2097152 by omega)
  have htt : (textB r).length = (numB r.length).length + r.length := by simp [textB]
  refine mwp_seq ?_
  refine mwp_region rfl ?_   -- region 0
  refine wOps_op rfl (op_assign rfl rfl ?_)   -- t2 ← assign const string ('rec', {'data': ('arr', [])})
  refine wOps_nil ?_
  refine mwp_seq ?_
  refine mwp_region rfl ?_   -- region 1
  refine wOps_op rfl (op_move rfl rfl ?_)   -- t5 ← move tmp 0
  refine wOps_op rfl (op_call rfl rfl rfl co36 ((codeText_spec r hr _).mono ?_))   -- t6 ← call ('rec', {'callee': ('app', 'value', [('app', 'func', [36])])
  rintro _ _ ⟨rfl, rfl⟩
  refine wOps_op rfl (op_assign rfl rfl ?_)   -- t3 ← assign tmp 6
  refine wOps_nil ?_
  refine mwp_seq ?_
  refine mwp_region rfl ?_   -- region 2
  refine wOps_op rfl (op_move rfl rfl ?_)   -- t7 ← move tmp 3
  refine wOps_op rfl (op_call rfl rfl rfl co37 ((codeHash_spec (textB r) (by omega) _).mono ?_))   -- t8 ← call ('rec', {'callee': ('app', 'value', [('app', 'func', [37])])
  rintro _ _ ⟨rfl, rfl⟩
  refine wOps_op rfl (op_assign rfl rfl ?_)   -- t4 ← assign tmp 8
  refine wOps_nil ?_
  refine mwp_seq ?_
  refine mwp_seq ?_
  refine mwp_region rfl ?_   -- region 3
  refine wOps_op rfl (op_move rfl rfl ?_)   -- t9 ← move const int i64 0
  refine wOps_nil ?_
  refine mwp_block ?_   -- block 0
  refine mwp_loopK (α := Nat × Bs × Int) [] (fun x => [(9, .int .i64 (x.1 : Int)), (3, .str (bs x.2.1)), (4, .int .u64 x.2.2)]) (fun x => []) (fun x => x.1 ≤ 8 ∧ x.2.1 ++ leB (8 - x.1) x.2.2 = laidB r) (fun x => 8 - x.1) (⟨0, textB r, hashB (textB r)⟩) (.nil) (.keep rfl (.keep rfl (.keep rfl (.nil)))) (⟨by omega, rfl⟩) rfl ?_
  rintro ⟨i, t, h⟩ ⟨hi, he⟩
  dsimp only at hi he ⊢
  have htl : t.length ≤ (laidB r).length := by rw [← he, List.length_append]; omega
  refine mwp_seq ?_
  refine mwp_region rfl ?_   -- region 4
  refine wOps_op rfl (op_cmp rfl rfl rfl rfl ?_)   -- t10 ← binOp lss 3 tmp 9 const int i64 8 3
  refine wOps_nil ?_
  refine mwp_seq ?_
  refine mwp_cond_split rfl (fun h10 => ?_) (fun h10 => ?_)   -- if t10
  · -- yes
    have hlt : i < 8 := by simp at h10; omega
    refine mwp_skip ?_
    refine mwp_seq ?_
    refine mwp_block ?_   -- block 1
    refine mwp_seq ?_
    refine mwp_region rfl ?_   -- region 5
    refine wOps_op rfl (op_move rfl rfl ?_)   -- t11 ← move tmp 3
    refine wOps_op rfl (op_move rfl rfl ?_)   -- t12 ← move tmp 4
    refine wOps_op rfl (op_convInt rfl Try.underlying72 Try.underlying5 rfl (u8_wrap h) ?_)   -- t13 ← convert 72 5 tmp 12
    refine wOps_op rfl (op_buildSlice rfl Try.underlying37 el5 rfl rfl (by decide) (by decide) rfl rfl ?_)   -- t14 ← buildSlice 37 1 [(0,tmp 13)]
    refine wOps_op rfl (op_conv_bytes (l := [UInt8.ofNat (IntKind.u8.wrap h).toNat]) rfl Try.underlying37 Try.underlying5 Try.underlying9 rfl (rfl) ?_)   -- t15 ← convert 37 9 tmp 14
    refine wOps_op rfl (op_strcat rfl rfl rfl (by simp only [List.length_cons, List.length_nil]; omega) ?_)   -- t16 ← binOp add 9 tmp 11 tmp 15 9
    refine wOps_op rfl (op_assign rfl rfl ?_)   -- t3 ← assign tmp 16
    refine wOps_nil ?_
    refine mwp_region rfl ?_   -- region 6
    refine wOps_op rfl (op_move rfl rfl ?_)   -- t17 ← move tmp 4
    refine wOps_op rfl (op_shr rfl rfl rfl (by omega) rfl ?_)   -- t18 ← binOp shr 72 tmp 17 const int u64 8 74
    refine wOps_op rfl (op_assign rfl rfl ?_)   -- t4 ← assign tmp 18
    refine wOps_nil ?_
    refine mwp_region rfl ?_   -- region 7
    refine wOps_op rfl (op_arith rfl rfl rfl rfl ?_)   -- t19 ← binOp add 3 tmp 9 const int i64 1 3
    refine wOps_op rfl (op_move rfl rfl ?_)   -- t9 ← move tmp 19
    refine wOps_nil ?_
    refine ⟨⟨i + 1, t ++ [UInt8.ofNat (IntKind.u8.wrap h).toNat], h.fdiv (2 ^ min (8 : Int).toNat IntKind.u64.bits)⟩, by dsimp only; omega, ⟨by dsimp only; omega, by dsimp only; rw [← he, show 8 - i = 8 - (i + 1) + 1 by omega, leB]; simp⟩, rfl, (.nil), (.eq rfl (int_succ hlt (by decide)) (.eq rfl (rfl) (.eq rfl (rfl) (.nil))))⟩
  · -- no
    have hge : i = 8 := by simp at h10; omega
    refine mwp_exit ?_
    refine mwp_seq ?_
    refine mwp_region rfl ?_   -- region 8
    refine wOps_op rfl (op_move rfl rfl ?_)   -- t20 ← move tmp 3
    refine wOps_op rfl (op_assign rfl rfl ?_)   -- t2 ← assign tmp 20
    refine wOps_nil ?_
    refine mwp_ret ?_
    exact ret_tmp (.inr rfl) Try.results24 rfl (.of_eq (by subst hge; rw [← he, leB, List.append_nil])) (.str _) ⟨rfl, rfl⟩

theorem number_spec (b : Bs) (hlen : b.length ≤ 2000000) (S : MS) : MCalls Try.prog 35 [.str (bs b)] S fun v σ' => v = .tup [.int .i64 ((numF b).1 : Int), .int .i64 ((numF b).2 : Int)] ∧ σ' = S := by
  refine mcalls_body Try.func35 rfl Try.ntmps35 (Nat.le_of_ble_eq_true rfl) ?_
  have hlen' : b.length ≤ maxLen := by simp only [maxLen]; omega
  refine mwp_seq ?_
  refine mwp_region rfl ?_   -- region 0
  refine wOps_op rfl (op_assign rfl rfl ?_)   -- t2 ← assign const int i64 0
  refine wOps_op rfl (op_assign rfl rfl ?_)   -- t3 ← assign const int i64 0
  refine wOps_nil ?_
  refine mwp_seq ?_
  refine mwp_region rfl ?_   -- region 1
  refine wOps_op rfl (op_assign rfl rfl ?_)   -- t4 ← assign const int i64 0
  refine wOps_op rfl (op_assign rfl rfl ?_)   -- t5 ← assign const int i64 1
  refine wOps_nil ?_
  refine mwp_seq ?_
  refine mwp_seq ?_
  refine mwp_region rfl ?_   -- region 2
  refine wOps_op rfl (op_assign rfl rfl ?_)   -- t6 ← assign const int i64 0
  refine wOps_nil ?_
  refine mwp_block ?_   -- block 0
  refine mwp_loopK (α := Nat × Nat × Nat) [(0, _)] (fun x => [(4, .int .i64 (x.2.1 : Int)), (5, .int .i64 (x.1 : Int)), (6, .int .i64 (x.2.2 : Int))]) (fun x => []) (fun x => x.2.2 ≤ b.length ∧ x.1 ≤ 12800000 ∧ x.2.1 < x.1 ∧ numGo x.1 x.2.1 x.2.2 (b.drop x.2.2) = numF b) (fun x => b.length - x.2.2) (⟨1, 0, 0⟩) (.keep rfl (.nil)) (.keep rfl (.keep rfl (.keep rfl (.nil)))) (⟨by simp, by simp, by simp, rfl⟩) rfl ?_
  rintro ⟨a, n, i⟩ ⟨hi, ha, hn, he⟩
  dsimp only at hi ha hn he ⊢
  refine mwp_seq ?_
  refine mwp_seq ?_
  refine mwp_region rfl ?_   -- region 3
  refine wOps_op rfl (op_move rfl rfl ?_)   -- t7 ← move tmp 6
  refine wOps_op rfl (op_move rfl rfl ?_)   -- t8 ← move tmp 0
  refine wOps_op rfl (op_len_bs rfl Try.underlying9 rfl ?_)   -- t9 ← call ('rec', {'callee': ('app', 'builtin', [('id', 'Go.Builtin.le
  refine wOps_op rfl (op_cmp rfl rfl rfl rfl ?_)   -- t10 ← binOp lss 3 tmp 7 tmp 9 3
  refine wOps_op rfl (op_move rfl rfl ?_)   -- t11 ← move tmp 10
  refine wOps_case (fun h11 => ?_) (fun h11 => ?_)
  ·
    have hlt : i < b.length := by simpa using h11
    obtain ⟨c, hs⟩ : ∃ q_, b[i]? = some q_ := ⟨_, List.getElem?_eq_getElem hlt⟩
    have hcl := c.toNat_lt
    have hm := Nat.mul_le_mul_right a (show c.toNat % 128 ≤ 127 by omega)
    rw [drop_at hs] at he
    refine wOps_op rfl (op_move rfl rfl ?_)   -- t12 ← move tmp 5  GUARD
    refine wOps_op rfl (op_cmp rfl rfl rfl rfl ?_)   -- t13 ← binOp leq 3 tmp 12 const int i64 100000 3  GUARD
    refine wOps_op rfl (op_pick rfl rfl rfl ?_)   -- t14 ← pick tmp 11 tmp 13 const bool false
    refine wOps_nil ?_
    refine mwp_cond_split rfl (fun h14 => ?_) (fun h14 => ?_)   -- if t14
    · -- yes
      have hat : a ≤ 100000 := by simp at h14; omega
      refine mwp_skip ?_
      refine mwp_seq ?_
      refine mwp_block ?_   -- block 1
      refine mwp_seq ?_
      refine mwp_region rfl ?_   -- region 5
      refine wOps_op rfl (op_move rfl rfl ?_)   -- t17 ← move tmp 4
      refine wOps_op rfl (op_move rfl rfl ?_)   -- t18 ← move tmp 0
      refine wOps_op rfl (op_move rfl rfl ?_)   -- t19 ← move tmp 6
      refine wOps_op rfl (op_index_str rfl Try.underlying9 rfl rfl rfl hs ?_)   -- t20 ← index 9 tmp 18 tmp 19
      refine wOps_op rfl (op_rem rfl rfl rfl (by decide) (rem128 c.toNat) ?_)   -- t21 ← binOp rem 5 tmp 20 const int u8 128 5
      refine wOps_op rfl (op_convInt rfl Try.underlying5 Try.underlying3 rfl (i64_byte (show c.toNat % 128 < 256 by omega)) ?_)   -- t22 ← convert 5 3 tmp 21
      refine wOps_op rfl (op_move rfl rfl ?_)   -- t23 ← move tmp 5
      refine wOps_op rfl (op_arith rfl rfl rfl (wmul (a := c.toNat % 128) (b := a) rfl (by omega)) ?_)   -- t24 ← binOp mul 3 tmp 22 tmp 23 3
      refine wOps_op rfl (op_arith rfl rfl rfl (wadd (a := n) (b := c.toNat % 128 * a) rfl (by omega)) ?_)   -- t25 ← binOp add 3 tmp 17 tmp 24 3
      refine wOps_op rfl (op_assign rfl rfl ?_)   -- t4 ← assign tmp 25
      refine wOps_nil ?_
      refine mwp_seq ?_
      refine mwp_seq ?_
      refine mwp_region rfl ?_   -- region 6
      refine wOps_op rfl (op_move rfl rfl ?_)   -- t26 ← move tmp 0
      refine wOps_op rfl (op_move rfl rfl ?_)   -- t27 ← move tmp 6
      refine wOps_op rfl (op_index_str rfl Try.underlying9 rfl rfl rfl hs ?_)   -- t28 ← index 9 tmp 26 tmp 27
      refine wOps_op rfl (op_cmp rfl rfl rfl rfl ?_)   -- t29 ← binOp lss 5 tmp 28 const int u8 128 5
      refine wOps_nil ?_
      refine mwp_cond_split rfl (fun h29 => ?_) (fun h29 => ?_)   -- if t29
      · -- yes
        have hc : c.toNat < 128 := by simp at h29; omega
        have hE : numF b = (n + c.toNat % 128 * a, i + 1) := by rw [← he, numGo, if_pos hat, if_pos hc]
        refine mwp_seq ?_
        refine mwp_region rfl ?_   -- region 7
        refine wOps_op rfl (op_move rfl rfl ?_)   -- t30 ← move tmp 4
        refine wOps_op rfl (op_move rfl rfl ?_)   -- t31 ← move tmp 6
        refine wOps_op rfl (op_arith rfl rfl rfl (wadd (a := i) (b := 1) rfl (by omega)) ?_)   -- t32 ← binOp add 3 tmp 31 const int i64 1 3
        refine wOps_op rfl (op_assign rfl rfl ?_)   -- t2 ← assign tmp 30
        refine wOps_op rfl (op_assign rfl rfl ?_)   -- t3 ← assign tmp 32
        refine wOps_nil ?_
        refine mwp_ret ?_
        exact ret_tmp2 (.inr rfl) Try.results35 rfl rfl (.of_eq (by rw [hE])) (.of_eq (by rw [hE])) (.int _ _) (.int _ _) ⟨rfl, rfl⟩
      · -- no
        have hc : ¬ c.toNat < 128 := by simp at h29; omega
        refine mwp_skip ?_
        refine mwp_region rfl ?_   -- region 8
        refine wOps_op rfl (op_move rfl rfl ?_)   -- t33 ← move tmp 5
        refine wOps_op rfl (op_arith rfl rfl rfl (wmul (a := a) (b := 128) rfl (by omega)) ?_)   -- t34 ← binOp mul 3 tmp 33 const int i64 128 3
        refine wOps_op rfl (op_assign rfl rfl ?_)   -- t5 ← assign tmp 34
        refine wOps_nil ?_
        refine mwp_region rfl ?_   -- region 4
        refine wOps_op rfl (op_move rfl rfl ?_)   -- t15 ← move tmp 6
        refine wOps_op rfl (op_arith rfl rfl rfl rfl ?_)   -- t16 ← binOp add 3 tmp 15 const int i64 1 3
        refine wOps_op rfl (op_assign rfl rfl ?_)   -- t6 ← assign tmp 16
        refine wOps_nil ?_
        refine ⟨⟨a * 128, n + c.toNat % 128 * a, i + 1⟩, by dsimp only; omega, ⟨by dsimp only; omega, by dsimp only; omega, by dsimp only; have := Nat.mul_le_mul_right a (show c.toNat % 128 ≤ 127 by omega); omega, by dsimp only; rw [← he, numGo, if_pos hat, if_neg hc]⟩, rfl, (.keep rfl (.nil)), (.eq rfl (rfl) (.eq rfl (rfl) (.eq rfl (int_succ hlt hlen') (.nil))))⟩
    · -- no
      have h100 : ¬ a ≤ 100000 := by simp at h14; omega
      have hE : numF b = (0, 0) := by rw [← he, numGo, if_neg h100]
      refine mwp_exit ?_
      refine mwp_seq ?_
      refine mwp_region rfl ?_   -- region 9
      refine wOps_op rfl (op_assign rfl rfl ?_)   -- t2 ← assign const int i64 0
      refine wOps_op rfl (op_assign rfl rfl ?_)   -- t3 ← assign const int i64 0
      refine wOps_nil ?_
      refine mwp_ret ?_
      exact ret_tmp2 (.inr rfl) Try.results35 rfl rfl (.of_eq (by rw [hE]; rfl)) (.of_eq (by rw [hE]; rfl)) (.int _ _) (.int _ _) ⟨rfl, rfl⟩
  ·
    have hge : i = b.length := by simp at h11; omega
    have hE : numF b = (0, 0) := by rw [← he, hge, List.drop_length]; rfl
    refine wOps_skip rfl ?_
    refine wOps_skip rfl ?_
    refine wOps_op rfl (op_pick rfl rfl rfl ?_)   -- t14 ← pick tmp 11 tmp 13 const bool false
    refine wOps_nil ?_
    refine mwp_cond_f rfl (rfl) ?_   -- if t14
    refine mwp_exit ?_
    refine mwp_seq ?_
    refine mwp_region rfl ?_   -- region 9
    refine wOps_op rfl (op_assign rfl rfl ?_)   -- t2 ← assign const int i64 0
    refine wOps_op rfl (op_assign rfl rfl ?_)   -- t3 ← assign const int i64 0
    refine wOps_nil ?_
    refine mwp_ret ?_
    exact ret_tmp2 (.inr rfl) Try.results35 rfl rfl (.of_eq (by rw [hE]; rfl)) (.of_eq (by rw [hE]; rfl)) (.int _ _) (.int _ _) ⟨rfl, rfl⟩
end Go.Proofs.Ytddcpfbmoahnpaa
