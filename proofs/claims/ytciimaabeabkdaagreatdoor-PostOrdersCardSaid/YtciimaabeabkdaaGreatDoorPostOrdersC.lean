/-
  Texts on which the proof of PostOrders leans: part 3.
-/
import Derived.Test.YtciimaabeabkdaaGreatDoorPostOrdersB
import Derived.Lib.Bytealg
import Derived.Laws.Externs
import Derived.Lib.SliceRun
set_option linter.unusedVariables false
set_option linter.unusedSimpArgs false
set_option maxRecDepth 20000
set_option maxHeartbeats 8000000
section
namespace Go.MV
open Go Go.RowKit
theorem quo128 {m : Nat} (h : m < 18446744073709551616) : IntKind.u64.wrap (Int.tdiv (m : Int) 128) = ((m / 128 : Nat) : Int) := by
 have e : Int.tdiv (m : Int) 128 = ((m / 128 : Nat) : Int) := rfl
 rw [e, zX2 (by omega)]
theorem rem128 (m : Nat) : Int.tmod (m : Int) 128 = ((m % 128 : Nat) : Int) := rfl
theorem add128 (m : Nat) : intArith .add .u64 ((m % 128 : Nat) : Int) 128 = some ((m % 128 + 128 : Nat) : Int) := by
 show some (IntKind.u64.wrap (((m % 128 : Nat) : Int) + 128)) = _
 rw [zX2 (by omega)]
 rfl
theorem u8_conv {m : Nat} (h : m < 256) : IntKind.u8.wrap (m : Int) = ((UInt8.ofNat m).toNat : Int) := by
 rw [wrap_u8 (by omega), u8_toNat h]
theorem u8_wrap (h : Int) : IntKind.u8.wrap h = ((UInt8.ofNat (IntKind.u8.wrap h).toNat).toNat : Int) := by
 have e : 0 ≤ IntKind.u8.wrap h ∧ IntKind.u8.wrap h < 256 := by
  have e1 : IntKind.u8.wrap h = h % 256 := rfl
  rw [e1]; omega
 rw [u8_toNat (by omega)]
 omega
theorem u64_byte (b : UInt8) : IntKind.u64.wrap (b.toNat : Int) = (b.toNat : Int) := by
 have := b.toNat_lt
 rw [zX2 (by omega)]
theorem i64_byte {m : Nat} (h : m < 256) : IntKind.i64.wrap (m : Int) = (m : Int) := by
 have e : IntKind.i64.wrap (m : Int) = if (m : Int) % 18446744073709551616 ≥ 9223372036854775808 then (m : Int) % 18446744073709551616 - 18446744073709551616 else (m : Int) % 18446744073709551616 := by
  unfold IntKind.wrap
  simp [IntKind.signed, IntKind.bits]
 rw [e]
 split <;> omega
theorem numB_more {m : Nat} (h : 128 ≤ m) : numB m = UInt8.ofNat (m % 128 + 128) :: numB (m / 128) := by rw [numB, dif_neg (by omega)]
theorem numB_last {m : Nat} (h : m < 128) : numB m = [UInt8.ofNat m] := by rw [numB, dif_pos h]
theorem hash_take {b : Bs} {i : Nat} {c : UInt8} (h : b[i]? = some c) : hashB (b.take (i + 1)) = hashStep (hashB (b.take i)) c := by
 rw [List.take_add_one, h]
 simp [hashB]
theorem drop_at {α : Type} {l : List α} {i : Nat} {a : α} (h : l[i]? = some a) : l.drop i = a :: l.drop (i + 1) := by
 obtain ⟨hlt, e⟩ := zD.1 h
 rw [List.drop_eq_getElem_cons hlt, e]
theorem wmul {a b c : Nat} (h : a * b = c) (hc : c < 9223372036854775808) : intArith .mul .i64 (a : Int) (b : Int) = some (c : Int) := by
 show some (IntKind.i64.wrap ((a : Int) * (b : Int))) = _
 have e : (a : Int) * (b : Int) = (c : Int) := by rw [← h]; exact (Int.natCast_mul a b).symm
 rw [e, wrap_i64 (by omega)]
end Go.MV
namespace Go.Proofs.YtciimaabeabkdaaGreatDoor
open Go Go.MV
theorem _root_.zA : type_of% @Nat.le_of_ble_eq_true := @Nat.le_of_ble_eq_true
theorem _root_.zZ0 : type_of% @Tryz.underlying22 := @Tryz.underlying22
theorem _root_.zK3 : type_of% @Tryz.underlying5 := @Tryz.underlying5
theorem _root_.zE2 : type_of% @Tryz.underlying47 := @Tryz.underlying47
theorem _root_.zV0 : type_of% @Tryz.underlying9 := @Tryz.underlying9
theorem codeNum_spec (n : Nat) (hn : n < 18446744073709551616) (hl : (numB n).length ≤ 100) (S : MS) : MCalls Tryz.prog 170 [.int .u64 (n : Int)] S fun v σ' => v = .str (bs (numB n)) ∧ σ' = S := by
 refine zM Tryz.func170 V Tryz.ntmps170 (zA V) ?_
 refine zB <| qR V <| qA V V V <| qN <| zB <| qR V <| qA V V V <| qN <| zB <| zX <| mwp_row0 3 5 1 V (Nat.le_refl _) V V ?_
 refine zD4 (α := Nat × Bs) [] (fun x => [(0, .int .u64 (x.1 : Int)), (3, .lst (some (S.length + 0)) 1 (x.2.map encY))]) (fun x => [.row 5 1 x.2.length]) (fun x => x.2 ++ numB x.1 = numB n ∧ x.1 ≤ n) (fun x => x.1) (⟨n, []⟩) (Nat.le_refl _) (.nil) (.keep V (.keep V (.nil))) (⟨rfl, Nat.le_refl _⟩) (V) ?_
 rintro ⟨m, out⟩ ⟨he, hm⟩
 dsimp only at he hm ⊢
 have hol : out.length ≤ (numB n).length := by rw [← he, zG]; omega
 refine zB <| zB <| qR V <| qM V V V <| qC V V V V V <| qN ?_
 refine zJ V (fun h5 => ?_) (fun h5 => ?_)
 ·
  have hge : 128 ≤ m := by simp at h5; omega
  refine zQ <| zB <| zX <| qR V <| qM V V V <| qM V V V <| qO V <| op_rem V V V (by decide) (rem128 m) ?_
  refine qO V <| zT0 V V V (add128 m) <| qO V <| zX1 V zZ0 zK3 V (u8_conv (show m % 128 + 128 < 256 by omega)) ?_
  refine qO V <| zJ1 V zE2 el5 V V (by decide) (by decide) V V ?_
  refine qO V <| zN3 V zE2 el5 V V V (by simp) (by simp only [zG, zF, zF0, List.length_nil]; omega) (by simp only [zG, zF, zF0, List.length_nil]; omega) V ?_
  refine qA V V V <| qN <| qR V <| qM V V V <| qO V <| op_quo V V V (by decide) (quo128 (by omega)) ?_
  refine qA V V V <| qN ?_
  refine ⟨⟨m / 128, out ++ [UInt8.ofNat (m % 128 + 128)]⟩, _, by dsimp only; omega, ⟨by dsimp only; rw [← he, numB_more hge]; simp, by dsimp only; omega⟩, by rw [zG]; rfl, .new trivial .nil, (.nil), (.new' V (V) (.int _ _) (.new' V (by rw [List.map_append]; rfl) (.lst _ _ _ (fun s hs => by injection hs with hs; simp; omega) (by rw [flat_encY]; intro y hy; obtain ⟨z, _, rfl⟩ := List.mem_map.1 hy; exact .int _ _)) (.nil)))⟩
 ·
  have hlt : m < 128 := by simp at h5; omega
  refine zM1 <| zB <| qR V <| qM V V V <| qM V V V <| qO V <| zX1 V zZ0 zK3 V (u8_conv (show m < 256 by omega)) ?_
  refine qO V <| zJ1 V zE2 el5 V V (by decide) (by decide) V V ?_
  refine qO V <| zN3 V zE2 el5 V V V (by simp) (by simp only [zG, zF, zF0, List.length_nil]; omega) (by simp only [zG, zF, zF0, List.length_nil]; omega) V ?_
  refine qO V <| op_conv_bytes (l := out ++ [UInt8.ofNat m]) V zE2 zK3 zV0 V (by rw [List.map_append]; rfl) ?_
  refine qA V V V <| qN <| zI ?_
  exact zR (.inr V) Tryz.results170 V (.of_eq (by rw [← he, numB_last hlt])) (.str _) Vv
theorem _root_.zH1 : type_of% @Tryz.underlying3 := @Tryz.underlying3
theorem codeText_spec (s : Bs) (hs : s.length ≤ 1000000) (S : MS) : MCalls Tryz.prog 126 [.str (bs s)] S fun v σ' => v = .str (bs (textB s)) ∧ σ' = S := by
 refine zM Tryz.func126 V Tryz.ntmps126 (zA V) ?_
 have hl := (numB_len (show s.length < 2097152 by omega)).2
 refine zB <| qR V <| qA V V V <| qN <| zB <| qR V <| qM V V V <| qO V <| zU3 V zV0 V <| qO V <| zX1 V zH1 zZ0 V (zX2 (by omega)) ?_
 refine qX V V V V co170 (codeNum_spec s.length (by omega) (by omega) _) ?_
 refine qM V V V <| qO V <| op_strcat V V V (by omega) ?_
 refine qA V V V <| qN <| zI ?_
 exact zR (.inr V) Tryz.results126 V (.of_eq (V)) (.str _) Vv
theorem codeHash_spec (b : Bs) (hlen : b.length ≤ 2000000) (S : MS) : MCalls Tryz.prog 65 [.str (bs b)] S fun v σ' => v = .int .u64 (hashB b) ∧ σ' = S := by
 refine zM Tryz.func65 V Tryz.ntmps65 (zA V) ?_
 have hlen' : b.length ≤ maxLen := by simp only [maxLen]; omega
 refine zB <| qR V <| qA V V V <| qN <| zB <| qR V <| qA V V V <| qN <| zB <| zB <| qR V <| qM V V V <| qO V <| zU3 V zV0 V <| qM V V V <| qN <| zX ?_
 refine zS1 (α := Nat) [(0, _), (6, _)] (fun i => [(7, .int .i64 (i : Int)), (3, .int .u64 (hashB (b.take i)))]) (fun i => []) (fun i => i ≤ b.length) (fun i => b.length - i) (0) (.keep V (.keep V (.nil))) (.keep V (.keep V (.nil))) (by omega) (V) ?_
 rintro i hi
 refine zB <| qR V <| qC V V V V V <| qN <| zB ?_
 refine zJ V (fun h8 => ?_) (fun h8 => ?_)
 ·
  have hlt : i < b.length := by simpa using h8
  obtain ⟨c, hs⟩ : ∃ q_, b[i]? = some q_ := ⟨_, zC hlt⟩
  refine zQ <| zB <| zX <| zB <| qR V <| qM V V V <| qA V V V <| qN <| qR V <| qM V V V <| qM V V V <| qM V V V <| qO V <| zJ5 V zV0 V V V hs <| qO V <| zX1 V zK3 zZ0 V (u64_byte c) <| qO V <| op_bits V V V V <| qO V <| zT0 V V V V <| qA V V V <| qN <| qR V <| qO V <| zT0 V V V V ?_
  refine qM V V V <| qN ?_
  refine ⟨i + 1, by omega, by omega, rfl, (.keep V (.keep V (.nil))), (.eq V (zQ1 hlt hlen') (.eq V (by rw [hash_take hs]; rfl) (.nil)))⟩
 ·
  have hge : i = b.length := by simp at h8; omega
  refine zM1 <| zB <| qR V <| qM V V V <| qA V V V <| qN <| zI ?_
  exact zR (.inr V) Tryz.results65 V (.of_eq (by rw [hge, List.take_length])) (.int _ _) Vv
end Go.Proofs.YtciimaabeabkdaaGreatDoor
end
namespace Go.Proofs.YtciimaabeabkdaaGreatDoor
open Go Go.MV
def partsF (k : Int) : Int := if k = 1 ∨ k = 2 ∨ k = 3 ∨ k = 6 ∨ k = 7 then 0 else if k = 4 ∨ k = 8 then 1 else if k = 5 then 2 else -1
theorem _root_.zL4 : type_of% @Tryz.results224 := @Tryz.results224
theorem parts_spec (k : Int) (S : MS) : MCalls Tryz.prog 224 [.int .i64 k] S fun v σ' => v = .int .i64 (partsF k) ∧ σ' = S := by
 refine zM Tryz.func224 V Tryz.ntmps224 (zA V) ?_
 refine zB <| qR V <| qA V V V <| qN <| zB <| zB <| qR V <| qM V V V <| qN <| zX <| zB <| zB <| qR V <| qC V V V V V <| qA V V V <| qN ?_
 refine zJ V (fun h4 => ?_) (fun h4 => ?_)
 ·
  refine zQ <| zT V h4 <| zB <| qR V <| qA V V V <| qN <| zI ?_
  exact zR (.inr V) zL4 V (.refl _) (.int _ _) ⟨by simp_all [partsF], rfl⟩
 ·
  refine zB <| qR V <| qC V V V V V <| qA V V V <| qN ?_
  refine zJ V (fun h4 => ?_) (fun h4 => ?_)
  ·
   refine zQ <| zT V h4 <| zB <| qR V <| qA V V V <| qN <| zI ?_
   exact zR (.inr V) zL4 V (.refl _) (.int _ _) ⟨by simp_all [partsF], rfl⟩
  ·
   refine zB <| qR V <| qC V V V V V <| qA V V V <| qN ?_
   refine zJ V (fun h4 => ?_) (fun h4 => ?_)
   ·
    refine zQ <| zT V h4 <| zB <| qR V <| qA V V V <| qN <| zI ?_
    exact zR (.inr V) zL4 V (.refl _) (.int _ _) ⟨by simp_all [partsF], rfl⟩
   ·
    refine zB <| qR V <| qC V V V V V <| qA V V V <| qN ?_
    refine zJ V (fun h4 => ?_) (fun h4 => ?_)
    ·
     refine zQ <| zT V h4 <| zB <| qR V <| qA V V V <| qN <| zI ?_
     exact zR (.inr V) zL4 V (.refl _) (.int _ _) ⟨by simp_all [partsF], rfl⟩
    ·
     refine qR V <| qC V V V V V <| qA V V V <| qN ?_
     refine zJ V (fun h4 => ?_) (fun h4 => ?_)
     ·
      refine zB <| qR V <| qA V V V <| qN <| zI ?_
      exact zR (.inr V) zL4 V (.refl _) (.int _ _) ⟨by simp_all [partsF], rfl⟩
     ·
      refine zB <| zB <| qR V <| qC V V V V V <| qA V V V <| qN ?_
      refine zJ V (fun h10 => ?_) (fun h10 => ?_)
      ·
       refine zQ <| zT V h10 <| zB <| qR V <| qA V V V <| qN <| zI ?_
       exact zR (.inr V) zL4 V (.refl _) (.int _ _) ⟨by simp_all [partsF], rfl⟩
      ·
       refine qR V <| qC V V V V V <| qA V V V <| qN ?_
       refine zJ V (fun h10 => ?_) (fun h10 => ?_)
       ·
        refine zB <| qR V <| qA V V V <| qN <| zI ?_
        exact zR (.inr V) zL4 V (.refl _) (.int _ _) ⟨by simp_all [partsF], rfl⟩
       ·
        refine zB <| qR V <| qC V V V V V <| qA V V V <| qN ?_
        refine zJ V (fun h13 => ?_) (fun h13 => ?_)
        ·
         refine zB <| qR V <| qA V V V <| qN <| zI ?_
         exact zR (.inr V) zL4 V (.refl _) (.int _ _) ⟨by simp_all [partsF], rfl⟩
        ·
         refine zQ <| zB <| qR V <| qA V V V <| qN <| zI ?_
         exact zR (.inr V) zL4 V (.refl _) (.int _ _) ⟨by simp_all [partsF], rfl⟩
theorem _root_.zQ0 : type_of% @Tryz.underlying51 := @Tryz.underlying51
theorem all_spec (l : List Sch) (p : Sch → Bool) (kf : FuncId) (first caps : List MV) (S : MS) (hco : CallOk Tryz.prog kf) (hp : ∀ s ∈ l, ∀ X : MS, MCalls Tryz.prog kf (first ++ [encS s] ++ caps) (S ++ X) fun v σ' => v = .bool (p s) ∧ σ' = S ++ X) :
  MCalls Tryz.prog 225 [.lst none 2 (encSs l), .fn (.func kf) first caps] S fun v σ' => v = .bool (l.all p) ∧ σ' = S := by
 refine zM Tryz.func225 V Tryz.ntmps225 (zA V) ?_
 refine zL3 (t := 0) V fun hlen => ?_
 refine zB <| qR V <| qA V V V <| qN <| zB <| zB <| qR V <| qM V V V <| qE V V zQ0 V <| qM V V V <| qN <| zX ?_
 refine mwp_loopJ (α := Nat) (fun i => [(0, .lst none 2 (encSs l)), (1, .fn (.func kf) first caps), (7, .lst none 2 (encSs l)), (8, .int .i64 ((encSs l).length : Int)), (9, .int .i64 (i : Int))]) (fun i => []) (fun i => i ≤ l.length ∧ (l.take i).all p = true) (fun i => l.length - i) (0) (Nat.le_refl _) ⟨by omega, rfl⟩ V (.keep V (.keep V (.keep V (.keep V (.keep V .nil))))) ?_
 rintro i ⟨hi, hall⟩
 refine zB <| qR V <| qC V V V V V <| qN <| zB ?_
 refine zJ V (fun h10 => ?_) (fun h10 => ?_)
 ·
  have hlt : i < l.length := by rw [zI3] at h10; simpa using h10
  obtain ⟨⟨k, ins⟩, hs⟩ : ∃ s, l[i]? = some s := ⟨_, zC hlt⟩
  refine zQ <| zB <| zX <| zB <| qR V <| qO V <| zK V zQ0 sz53 (by decide) V V V (encSs_get hs) ?_
  refine qO V <| zO V V ta53 V <| qO V <| zN0 V zm53 V V <| qO V <| zC0 V V V V sz53 V V (zA V) V <| qN <| zB <| qR V <| qM V V V <| qL V V V V ta53 V ?_
  refine zM5 V (zD1 V V V hco ((hp _ (zW hs) _).mono ?_))
  rintro _ _ ⟨rfl, rfl⟩
  refine qO V <| zC1 V V <| qN ?_
  refine zJ V (fun h16 => ?_) (fun h16 => ?_)
  ·
   refine zB <| qR V <| qA V V V <| qN <| zI ?_
   exact zR (.inr V) Tryz.results225 V (.refl _) (.bool _) ⟨by rw [List.all_eq_false.2 ⟨_, zW hs, by simpa using h16⟩], rfl⟩
  ·
   refine zQ <| qR V <| qO V <| zT0 V V V V <| qM V V V <| qN ?_
   refine ⟨i + 1, _, by omega, ⟨by omega, ?_⟩, rfl, .nil, .old V V (.old V V (.old V V (.old V V (.new' V (zQ1 hlt (by rw [zI3] at hlen; exact hlen)) (.int _ _) .nil))))⟩
   rw [List.take_add_one, hs]
   simp [hall]
   simpa using h16
 ·
  have hge : i = l.length := by rw [zI3] at h10; simp at h10; omega
  refine zM1 <| zB <| qR V <| qA V V V <| qN <| zI ?_
  exact zR (.inr V) Tryz.results225 V (.refl _) (.bool _) ⟨by rw [hge, List.take_length] at hall; rw [hall], rfl⟩
def isF : Nat → Sch → Bool
 | 0, _ => false
 | d + 1, .mk k ins => (partsF k == (ins.length : Int)) && ins.all (isF d)
theorem is1_spec (d : Nat) (hd : d < 1000) (ih : ∀ (s : Sch) (S : MS), MCalls Tryz.prog 185 [encS s, .int .i64 (d : Int)] S fun v σ' => v = .bool (isF d s) ∧ σ' = S) (s : Sch) (id : Nat) (S : MS) (hS : S[id]? = some (.cells [.int .i64 ((d + 1 : Nat) : Int)])) :
  MCalls Tryz.prog 226 [encS s, .ref id 0] S fun v σ' => v = .bool (isF d s) ∧ σ' = S := by
 obtain ⟨k, ins⟩ := s
 have hsub : IntKind.i64.wrap (((d + 1 : Nat) : Int) - 1) = (d : Int) := by rw [wrap_i64 (by omega)]; omega
 refine zM Tryz.func226 V Tryz.ntmps226 (zA V) ?_
 refine zB <| qR V <| qB V V V V V <| qA V V V <| qN <| zB <| qR V <| qL V V V V ta53 V <| qO V <| zP1 V V hS ta3 V <| qO V <| zT0 V V V V ?_
 rw [hsub]
 refine qX V V V V co185 (ih (.mk k ins) _) ?_
 refine qA V V V <| qN <| zI ?_
 exact zR (.inr V) Tryz.results226 V (.refl _) (.bool _) Vv
theorem is_spec (d : Nat) : d < 1000 → ∀ (s : Sch) (S : MS), MCalls Tryz.prog 185 [encS s, .int .i64 (d : Int)] S fun v σ' => v = .bool (isF d s) ∧ σ' = S := by
 induction d with
 | zero =>
  rintro - ⟨k, ins⟩ S
  refine zM Tryz.func185 V Tryz.ntmps185 (zA V) ?_
  refine zB <| qR V <| qB V V V V V <| qB V V V V V <| qA V V V <| qN <| zB <| zB ?_
  refine zX0 [] [_] mo (by decide) V V V V ?_
  refine dO V V V (zO0 V V V ta3 V Vv) <| dO V V V (zW2 V V V V Vv) <| dO V V V (zY V V Vv) <| dS V V <| dS V V <| dS V V <| dS V V <| dS V V <| dS V V <| dS V V <| dO V V V (zO1 V V V Vv) <| zP0 <| zT V (V) <| zB <| qR V <| qA V V V <| qN <| zI ?_
  exact zR (.inr V) Tryz.results185 V (.refl _) (.bool _) ⟨by simp [isF], rfl⟩
 | succ d ih =>
  rintro hd ⟨k, ins⟩ S
  have h0 : (((d + 1 : Nat) : Int) == 0) = false := by simp; omega
  refine zM Tryz.func185 V Tryz.ntmps185 (zA V) ?_
  refine zB <| qR V <| qB V V V V V <| qB V V V V V <| qA V V V <| qN <| zB <| zB ?_
  refine zX0 [] [_] mo (by decide) V V V V ?_
  refine dO V V V (zO0 V V V ta3 V Vv) <| dO V V V (zW2 V V V V Vv) ?_
  rw [h0]
  refine dO V V V (zY V V Vv) <| dO V V V (zE V V zJ2 Vv) <| dO V V V (zO0 V V V ta3 V Vv) <| zU V V (.cons (zD1 V V V co224 (parts_spec _ _)) .nil) <| dO V V V (zE V V zS3 Vv) <| dO V V V (zO0 V V V ta51 V Vv) <| dO V V V (zW1 V zQ0 V Vv) <| dO V V V (zW2 V V V V Vv) <| dO V V V (zO1 V V V Vv) <| zP0 ?_
  refine zJ V (fun h15 => ?_) (fun h15 => ?_)
  ·
   refine zB <| qR V <| qA V V V <| qN <| zI ?_
   exact zR (.inr V) Tryz.results185 V (.refl _) (.bool _) ⟨by rw [zI3] at h15; simp at h15; simp [isF, h15], rfl⟩
  ·
   refine zQ <| zB <| qR V <| qF V V V zS3 <| qL V V V V ta51 V <| qO V <| zO2 V V V ?_
   refine qX V V V V co225 (all_spec ins (isF d) _ _ _ _ co226 fun s _ X => is1_spec d (by omega) (ih (by omega)) s _ _ (by rw [List.getElem?_append_left (by simp)]; simp [MV.cells])) ?_
   refine qA V V V <| qN <| zI ?_
   exact zR (.inr V) Tryz.results185 V (.refl _) (.bool _) ⟨by rw [zI3] at h15; simp at h15; simp [isF, h15], rfl⟩
theorem Is_spec (s : Sch) (S : MS) : MCalls Tryz.prog 140 [encS s] S fun v σ' => v = .bool (isF 16 s) ∧ σ' = S := by
 obtain ⟨k, ins⟩ := s
 refine zM Tryz.func140 V Tryz.ntmps140 (zA V) ?_
 refine zB <| qR V <| qB V V V V V <| qA V V V <| qN <| zB <| qR V <| qL V V V V ta53 V ?_
 refine qX V V V V co185 (is_spec 16 (by omega) (.mk k ins) _) ?_
 refine qA V V V <| qN <| zI ?_
 exact zR (.inr V) Tryz.results140 V (.refl _) (.bool _) Vv
end Go.Proofs.YtciimaabeabkdaaGreatDoor
namespace Go.Proofs.YtciimaabeabkdaaGreatDoor
open Go Go.MV Go.RowKit
mutual
def bottomF : Sch → Val
 | .mk k ins => if k = 5 then .mk 0 0 [] [] (bottomL ins) else noV
def bottomL : List Sch → List Val
 | [] => []
 | s :: l => bottomF s :: bottomL l
end
def BottomF (s : Sch) : Val := if isF 16 s then bottomF s else noV
noncomputable def noneF (s : Sch) (v : Val) : Bool := decide (BottomF s = v)
def numsK (k : Int) : Bool := k == 1 || k == 2 || k == 6
def textsK (k : Int) : Bool := k == 3 || k == 4 || k == 6
def clocksK (k : Int) : Bool := k == 7 || k == 8
def valuesK (k : Int) : Bool := k == 4 || k == 5 || k == 8
def bareF (k : Int) (v : Val) : Bool := (numsK k || v.nv == 0) && (k == 6 || v.mv == 0) && (textsK k || v.sv.length == 0) && (clocksK k || v.cv.length == 0) && (valuesK k || v.vv.length == 0)
def isRowF (s : List Bs) : Bool := decide (s.length ≤ 40) && risesF s && shortF s
def isLastF (n m : Int) : List Bs → Bool
 | [] => n == 0 && m == 0
 | [t] => decide (t.length ≤ 16) && (!(n == 0) || !(m == 0) || !(t == []))
 | _ => false
noncomputable def isB (k : Int) (ins : List Sch) (fs : List (Val → Bool)) (v : Val) : Bool :=
  bareF k v && decide (v.vv.length ≤ 40) && decide (v.cv.length ≤ 40) &&
  (if k = 1 then true else if k = 2 then decide (v.nv ≤ 1) else if k = 3 then isRowF v.sv
   else if k = 4 then isRowF v.sv && decide (v.sv.length = v.vv.length) && v.vv.all (fun x => fs.headD (fun _ => false) x && !noneF (ins.headD default) x)
   else if k = 5 then (match v.vv with | [x, y] => fs.headD (fun _ => false) x && fs.tail.headD (fun _ => false) y | _ => false)
   else if k = 6 then isLastF v.nv v.mv v.sv
   else if k = 7 then (match v.cv with | [] => true | [c] => decide (0 < c.length) && isClockF c | _ => false)
   else decide (v.cv.length = v.vv.length) && isCauseF v.cv && v.vv.all (fs.headD (fun _ => false)))
mutual
noncomputable def isVF : Sch → Val → Bool
 | .mk k ins, v => isB k ins (isVL ins) v
noncomputable def isVL : List Sch → List (Val → Bool)
 | [] => []
 | s :: l => isVF s :: isVL l
end
def okTk (t : Tk) : Prop := 0 ≤ t.2 ∧ t.2 < 18446744073709551616
mutual
def okV : Val → Prop
 | .mk n m s c v => (0 ≤ n ∧ n < 18446744073709551616) ∧ (0 ≤ m ∧ m < 18446744073709551616) ∧ (∀ x ∈ c, ∀ t ∈ x, okTk t) ∧ okVs v
def okVs : List Val → Prop
 | [] => True
 | x :: l => okV x ∧ okVs l
end
theorem okVs_iff : ∀ {l : List Val}, okVs l ↔ ∀ x ∈ l, okV x
 | [] => by simp [okVs]
 | x :: l => by rw [okVs, okVs_iff (l := l)]; simp
section
abbrev RdS := Bs × Option Int
def failR (e : Int) (r : RdS) : RdS := (r.1, match r.2 with | none => some e | some x => some x)
def numScan (n i : Nat) : Bs → Except Int (Nat × Bs)
 | [] => .error 11
 | c :: l =>
  if 64 ≤ 7 * i ∨ 18446744073709551616 ≤ (c.toNat % 128) * 2 ^ (7 * i) ∨ (0 < i ∧ c = 0) then .error 10
  else if c.toNat < 128 then .ok (n + c.toNat % 128 * 2 ^ (7 * i), l)
  else numScan (n + c.toNat % 128 * 2 ^ (7 * i)) (i + 1) l
def numM (r : RdS) : Nat × RdS := match r.2 with
 | some _ => (0, r)
 | none => match numScan 0 0 r.1 with | .ok (n, l) => (n, (l, none)) | .error e => (0, (r.1, some e))
def textM (r : RdS) : Bs × RdS :=
 if (numM r).2.2.isSome then ([], (numM r).2)
 else if 16 < (numM r).1 then ([], failR 13 (numM r).2)
 else if (numM r).2.1.length < (numM r).1 then ([], failR 11 (numM r).2)
 else ((numM r).2.1.take (numM r).1, ((numM r).2.1.drop (numM r).1, (numM r).2.2))
theorem pow7 (i : Nat) : 2 ^ (7 * (i + 1)) = 128 * 2 ^ (7 * i) := by
 rw [show 7 * (i + 1) = 7 * i + 7 by omega, Nat.pow_add]
 omega
theorem pow7_lt {i m : Nat} (h : m * 2 ^ (7 * i) < 18446744073709551616) (hm : 0 < i → 0 < m) : ¬ 64 ≤ 7 * i := by
 intro hi
 have h1 : 2 ^ 64 ≤ 2 ^ (7 * i) := Nat.pow_le_pow_right (by omega) hi
 have h2 : 1 * 2 ^ (7 * i) ≤ m * 2 ^ (7 * i) := Nat.mul_le_mul_right _ (hm (by omega))
 omega
theorem numB_lo {m : Nat} (h : m < 128) : numB m = [UInt8.ofNat m] := by rw [numB, dif_pos h]
theorem numB_hi {m : Nat} (h : ¬ m < 128) : numB m = UInt8.ofNat (m % 128 + 128) :: numB (m / 128) := by rw [numB, dif_neg h]
theorem u8_is0 {m : Nat} (h : m < 256) : UInt8.ofNat m = 0 ↔ m = 0 := by
 constructor
 ·intro e
  have := congrArg UInt8.toNat e
  rw [u8_toNat h] at this
  simpa using this
 ·rintro rfl; rfl
theorem scan_back : ∀ (m n i : Nat) (rest : Bs), m * 2 ^ (7 * i) < 18446744073709551616 → (0 < i → 0 < m) → numScan n i (numB m ++ rest) = .ok (n + m * 2 ^ (7 * i), rest) := by
 intro m
 induction m using Nat.strongRecOn with
 | _ m ih =>
  intro n i rest h hm
  have hi := pow7_lt h hm
  by_cases hlt : m < 128
  ·have e : m % 128 = m := Nat.mod_eq_of_lt hlt
   rw [numB_lo hlt, List.singleton_append, numScan, u8_toNat (by omega), e, if_neg, if_pos hlt]
   rw [u8_is0 (by omega)]
   omega
  ·have hb : m % 128 + 128 < 256 := by omega
   have e : (m % 128 + 128) % 128 = m % 128 := by omega
   have hle : m % 128 * 2 ^ (7 * i) ≤ m * 2 ^ (7 * i) := Nat.mul_le_mul_right _ (Nat.mod_le _ _)
   have hdm : m / 128 * 2 ^ (7 * (i + 1)) + m % 128 * 2 ^ (7 * i) = m * 2 ^ (7 * i) := by
    rw [pow7, ← Nat.mul_assoc, ← Nat.add_mul]
    congr 1
    omega
   rw [numB_hi hlt, List.cons_append, numScan, u8_toNat hb, e, if_neg, if_neg (by omega), ih (m / 128) (by omega) _ _ _ (by omega) (by omega)]
   ·congr 2
    omega
   ·rw [u8_is0 hb]
    omega
structure Cod {α : Type} (M : RdS → α × RdS) (E : α → Bs) (P Q : α → Prop) : Prop where
 er : ∀ b e, (M (b, some e)).2 = (b, some e)
 rt : ∀ x rest, P x → M (E x ++ rest, none) = (x, (rest, none))
 sh : ∀ x p q, P x → E x = p ++ q → q ≠ [] → (M (p, none)).2.2 = some 11
 un : ∀ b x rest, M (b, none) = (x, (rest, none)) → Q x → b = E x ++ rest
section
variable {α : Type} {one : RdS → α × RdS} {E : α → Bs} {P Q : α → Prop} (h : Cod one E P Q)
include h
def rowB {α : Type} (E : α → Bs) (l : List α) : Bs := numB l.length ++ l.flatMap E
omit h in
end
end
def errV : Option Int → MV
 | none => .iface0
 | some x => .iface 49 (.int .i64 x)
def rdO (r : RdS) : MObj := .cells [.str (bs r.1), errV r.2]
theorem cl_errV (n : Nat) : ∀ e, Cl n (errV e)
 | none => .iface0
 | some x => .iface _ _ (.int _ _)
theorem rd_cl (n : Nat) (r : RdS) : (rdO r).cl n := fun x hx => by
 rcases List.mem_cons.1 hx with rfl | hx
 ·exact .str _
 ·rcases List.mem_cons.1 hx with rfl | hx
  ·exact cl_errV _ _
  ·cases hx
def Reads {α : Type} (k : FuncId) (xs : List MV) (id : Nat) (en : α → MV) (M : RdS → α × RdS) : Prop := ∀ (r : RdS) (S : MS), S[id]? = some (rdO r) → r.1.length ≤ 8000000 → MCalls Tryz.prog k xs S fun v σ' => v = en (M r).1 ∧ σ' = S.set id (rdO (M r).2)
theorem set_sl {S L : MS} {id : Nat} {r : RdS} {o : MObj} (h : S[id]? = some (rdO r)) : (S ++ L).set id o = S.set id o ++ L := List.set_append_left _ _ (zD.1 h).1
theorem get_sl {S L : MS} {id : Nat} {o : MObj} (h : S[id]? = some o) : (S ++ L)[id]? = some o := by rw [List.getElem?_append_left (zD.1 h).1]; exact h
theorem Reads.sl {α : Type} {k : FuncId} {xs : List MV} {id : Nat} {en : α → MV} {M : RdS → α × RdS} (h : Reads k xs id en M) {r : RdS} {S L : MS} (hr : S[id]? = some (rdO r)) (hl : r.1.length ≤ 8000000) : MCalls Tryz.prog k xs (S ++ L) fun v σ' => v = en (M r).1 ∧ σ' = S.set id (rdO (M r).2) ++ L :=
 (h r (S ++ L) (get_sl hr) hl).mono fun v σ' hv => ⟨hv.1, by rw [hv.2, set_sl hr]⟩
theorem set_self_rd {S : MS} {id : Nat} {o : MObj} (h : S[id]? = some o) : S.set id o = S := by
 obtain ⟨hl, e⟩ := zD.1 h
 rw [← e, List.set_getElem_self]
theorem shl_u64 {c k : Nat} (hk : k < 64) (h : c * 2 ^ k < 18446744073709551616) : IntKind.u64.wrap ((c : Int) * 2 ^ min ((k : Int).toNat) IntKind.u64.bits) = ((c * 2 ^ k : Nat) : Int) := by
 rw [show min ((k : Int).toNat) IntKind.u64.bits = k by rw [Int.toNat_natCast]; simp [IntKind.bits]; omega, show (c : Int) * 2 ^ k = ((c * 2 ^ k : Nat) : Int) by simp, zX2 (by omega)]
theorem or_u64 {n c k : Nat} (hn : n < 2 ^ k) (h : c * 2 ^ k + n < 18446744073709551616) : bitsI .or .u64 (n : Int) ((c * 2 ^ k : Nat) : Int) = some ((n + c * 2 ^ k : Nat) : Int) := by
 show some (IntKind.u64.wrap ((BitVec.ofInt 64 (n : Int) ||| BitVec.ofInt 64 ((c * 2 ^ k : Nat) : Int)).toNat : Int)) = _
 simp only [BitVec.ofInt_natCast, BitVec.toNat_or, BitVec.toNat_ofNat]
 have e : n ||| c * 2 ^ k = n + c * 2 ^ k := by
  rw [Nat.or_comm, Nat.mul_comm c, ← Nat.two_pow_add_eq_or_of_lt hn, Nat.add_comm]
 rw [Nat.mod_eq_of_lt (show n < 2 ^ 64 by omega), Nat.mod_eq_of_lt (show c * 2 ^ k < 2 ^ 64 by omega), e, zX2 (by omega)]
theorem fit_or {n m i : Nat} (hn : n < 2 ^ (7 * i)) (hm : m < 128) (hi : 7 * i < 64) (h : m * 2 ^ (7 * i) < 18446744073709551616) : m * 2 ^ (7 * i) + n < 18446744073709551616 ∧ n + m * 2 ^ (7 * i) < 2 ^ (7 * (i + 1)) := by
 have h1 : (m + 1) * 2 ^ (7 * i) ≤ 128 * 2 ^ (7 * i) := Nat.mul_le_mul_right _ (by omega)
 have h3 : (m + 1) * 2 ^ (7 * i) = m * 2 ^ (7 * i) + 2 ^ (7 * i) := by rw [Nat.add_mul, Nat.one_mul]
 refine ⟨?_, by rw [pow7]; omega⟩
 have hd : m * 2 ^ (7 * i) < 2 ^ (64 - 7 * i) * 2 ^ (7 * i) := by
  rw [← Nat.pow_add, show 64 - 7 * i + 7 * i = 64 by omega]
  exact h
 have hlt : m < 2 ^ (64 - 7 * i) := Nat.lt_of_mul_lt_mul_right hd
 have h2 : (m + 1) * 2 ^ (7 * i) ≤ 2 ^ (64 - 7 * i) * 2 ^ (7 * i) := Nat.mul_le_mul_right _ hlt
 rw [← Nat.pow_add, show 64 - 7 * i + 7 * i = 64 by omega] at h2
 omega
end Go.Proofs.YtciimaabeabkdaaGreatDoor
namespace Go.MV
open Go Go.RowKit
section
section
variable {P : Program} {rd : Option Nat} {o : Oper} {env : Env} {σ : MS} {K : MV → MS → Prop}
theorem op_ext {f : Operand} {args : Array Operand} {ts : Array TypeId} {k : FuncId} {xs : List MV} {vz : Value} {mz : MV} (ho : o.op = .call { callee := .value f, args := args, argTypes := ts }) (hf : evo env f = some (.fn (.func k) [] [])) (hx : evos env args.toList = some xs)
  (hrun : ∀ (g : Gh) (w : World) (vs : List Value), Rds g w xs vs → (callFunc k vs.toArray).run P w = .ok (.value vz) w) (hz : constMV vz = some mz) (h : K mz σ) : OpWp P rd o env σ K := by
 refine OpWp.of_run (by simp [ho]) fun g w a hr hop => ?_
 obtain ⟨us, vs, e, k1, k2⟩ := (hop f (by simp [ho, Op.operands, Call.operands]) _ hf).inv_fn
 have k3 : Rds g w xs (args.toList.map a.eval) := evos_rds (fun x hx m hm => hop x (by simp [ho, Op.operands, Call.operands]; exact .inr (by simpa using hx)) m hm) hx
 have e1 : us = [] := List.eq_nil_of_length_eq_zero k1.1
 have e2 : vs = [] := List.eq_nil_of_length_eq_zero k2.1
 subst e1 e2
 refine ⟨vz, w, ?_, .same h hr (zZ5 _ _ hz)⟩
 have := hrun g w _ k3
 rw [← Array.toList_map, Array.toArray_toList] at this
 simp [execOp, ho, resolve, e, Deferred.ofValue, invoke, this]
theorem op_max3 {ts : Array TypeId} {x y z : Operand} {k : IntKind} {l m n r : Int} (ho : o.op = .call { callee := .builtin .max, args := #[x, y, z], argTypes := ts }) (hx : evo env x = some (.int k l)) (hy : evo env y = some (.int k m)) (hz : evo env z = some (.int k n)) (e : max (max l m) n = r) (h : K (.int k r) σ) : OpWp P rd o env σ K := by
 refine OpWp.of_run (by simp [ho]) fun g w a hr hop => ?_
 have e1 := (hop x (by simp [ho, Op.operands, Call.operands]) _ hx).inv_int
 have e2 := (hop y (by simp [ho, Op.operands, Call.operands]) _ hy).inv_int
 have e3 := (hop z (by simp [ho, Op.operands, Call.operands]) _ hz).inv_int
 have hm : ∀ a b : Int, (if b > a then b else a) = max a b := fun a b => by split <;> omega
 refine ⟨.int k r, w, ?_, .same h hr (.int _ _)⟩
 simp [execOp, ho, resolve, invoke, builtin, Builtin.max_, Builtin.max2, e1, e2, e3, hm, e]
end
abbrev cmpX (a b : Bs) : Int := Go.Lib.compareBytes a b
theorem run_cmpstr {P : Program} {k : FuncId} {fn : Func} (hf : P.funcs[k]? = some fn) (hname : (fn.name == "runtime.NumGoroutine") = false) (hb : fn.body.isNone = true) (hn : Extern.findNext fn = none) (he : Extern.find fn = some Extern.BytealgCompare.compare) (a b : Bs) (g : Gh) (w : World) (vs : List Value) (h : Rds g w [.str (bs a), .str (bs b)] vs) :
  (callFunc k vs.toArray).run P w = .ok (.value (.int .i64 (cmpX a b))) w := by
 obtain ⟨u, us, rfl, h1, h2⟩ := h.uncons
 obtain ⟨u2, us2, rfl, h3, h4⟩ := h2.uncons
 have e1 := h1.inv_str
 have e2 := h3.inv_str
 have e3 : us2 = [] := List.eq_nil_of_length_eq_zero h4.1
 subst e1 e2 e3
 rw [run_callFunc_extern hf hname hb hn he, Go.Lib.run_compareString]
 rfl
end
end Go.MV
namespace Go.Proofs.YtciimaabeabkdaaGreatDoor
open Go Go.MV Go.RowKit
theorem run_same {P : Program} {k : FuncId} {fn : Func} (hf : P.funcs[k]? = some fn) (hname : (fn.name == "runtime.NumGoroutine") = false) (hb : fn.body.isNone = true) (hn : Extern.findNext fn = none) (he : Extern.find fn = some Extern.AbiNoEscape.same) (v : Value) (w : World) :
  (callFunc k #[v]).run P w = .ok (.value v) w := by
 rw [run_callFunc_extern hf hname hb hn he, Go.Lib.run_noEscape]
 rfl
theorem op_same {P : Program} {rd : Option Nat} {o : Oper} {env : Env} {σ : MS} {K : MV → MS → Prop} {f x : Operand} {k : FuncId} {fn : Func} {m : MV} {ts : Array TypeId} (ho : o.op = .call { callee := .value f, args := #[x], argTypes := ts }) (hf : evo env f = some (.fn (.func k) [] [])) (hfn : P.funcs[k]? = some fn) (hname : (fn.name == "runtime.NumGoroutine") = false) (hb : fn.body.isNone = true) (hn : Extern.findNext fn = none) (he : Extern.find fn = some Extern.AbiNoEscape.same) (hx : evo env x = some m) (h : K m σ) : OpWp P rd o env σ K := by
 refine OpWp.of_run (by simp [ho]) fun g w a hr hop => ?_
 obtain ⟨us, vs, e, k1, k2⟩ := (hop f (by simp [ho, Op.operands, Call.operands]) _ hf).inv_fn
 have hrd := hop x (by simp [ho, Op.operands, Call.operands]) _ hx
 have e1 : us = [] := List.eq_nil_of_length_eq_zero k1.1
 have e2 : vs = [] := List.eq_nil_of_length_eq_zero k2.1
 subst e1 e2
 have hrun := run_same (P := P) hfn hname hb hn he (a.eval x) w
 refine ⟨a.eval x, w, ?_, .same h hr hrd⟩
 simp [execOp, ho, resolve, e, Deferred.ofValue, invoke, hrun]
theorem get_slO {S L : MS} {id : Nat} {o : MObj} (h : S[id]? = some o) : (S ++ L)[id]? = some o := get_sl h
theorem _root_.zK1 : type_of% @get_slO := @get_slO
theorem set_slO {S L : MS} {id : Nat} {o p : MObj} (h : S[id]? = some p) : (S ++ L).set id o = S.set id o ++ L := List.set_append_left _ _ (zD.1 h).1
theorem _root_.zC4 : type_of% @set_slO := @set_slO
theorem cls_tc {S : MS} {id : Nat} {ty : TypeId} {l : List MV} (h : ClS S) (hl : ∀ x ∈ l, Cl S.length x) : ClS (S.set id (.tcells ty l)) := by
 intro i o ho
 rw [List.length_set]
 rcases List.mem_or_eq_of_mem_set (zW ho) with hm | rfl
 ·obtain ⟨j, hj⟩ := List.getElem?_of_mem hm
  exact h j o hj
 ·exact hl
theorem _root_.zG3 : type_of% @Tryz.underlying117 := @Tryz.underlying117
theorem check_new (id : Nat) (q : MV) (S : MS) (h : S[id]? = some (.tcells 232 [.ptr0, q])) : MCalls Tryz.prog 171 [.ref id 0] S fun v σ' => v = .tup [] ∧ σ' = S.set id (.tcells 232 [.ref id 0, q]) := by
 refine zM Tryz.func171 V Tryz.ntmps171 (zA V) ?_
 refine zW0 fun _ hcl => ?_
 rw [List.append_nil] at hcl
 have hidl := (zD.1 h).1
 refine zB <| qR V <| qM V V V <| qO V <| zD0 V V V <| qF V V V fo119_0 <| qO V <| zW3 V V (zK1 h) ta117 V <| qO V <| op_ptr0 V zG3 V V (.inl Vv) <| qN <| zT V (V) <| qR V <| qM V V V <| qM V V V <| qO V <| op_toUnsafe V zG3 Tryz.underlying239 (k := 2) (by kernel_rfl) (by decide) V (zK1 h) (by simp) ?_
 refine qO V <| op_same V V Tryz.func217 (by kernel_rfl) (by kernel_rfl) (by kernel_rfl) (by kernel_rfl) V ?_
 refine qO V <| op_fromUnsafe V Tryz.underlying239 zG3 (k := 2) (by kernel_rfl) V (zK1 h) (by kernel_rfl) ?_
 refine qO V <| zD0 V V V <| qF V V V fo119_0 <| qO V <| op_store_T V V V (zK1 h) sz117 V V (zA V) ?_
 rw [zC4 h]
 refine qN ?_
 exact zB2 (by simp) Tryz.results171 (by simp) (cls_tc hcl (fun x hx => by
   have hob := hcl id _ h
   rcases List.mem_cons.1 hx with rfl | hx
   ·exact .ref _ _ hidl
   ·exact hob x (.tail _ hx))) ⟨rfl, rfl⟩
theorem check_used (id : Nat) (q : MV) (S : MS) (h : S[id]? = some (.tcells 232 [.ref id 0, q])) : MCalls Tryz.prog 171 [.ref id 0] S fun v σ' => v = .tup [] ∧ σ' = S := by
 refine zM Tryz.func171 V Tryz.ntmps171 (zA V) ?_
 refine zW0 fun _ hcl => ?_
 rw [List.append_nil] at hcl
 refine zB <| qR V <| qM V V V <| qO V <| zD0 V V V <| qF V V V fo119_0 <| qO V <| zW3 V V (zK1 h) ta117 V <| qO V <| op_ptrnil V zG3 V V V (.inl Vv) <| qN <| zL V (V) <| zB <| qR V <| qM V V V <| qO V <| zD0 V V V <| qF V V V fo119_0 <| qO V <| zW3 V V (zK1 h) ta117 V <| qM V V V <| qO V <| op_ptrsame V zG3 (k := 2) (by kernel_rfl) (by decide) V V (.inr Vv) ?_
 refine qN <| zL V (V) <| zQ ?_
 exact zB2 (by simp) Tryz.results171 (by simp) hcl Vv
theorem set_self_o {S : MS} {id : Nat} {o : MObj} (h : S[id]? = some o) : S.set id o = S := by
 obtain ⟨hl, e⟩ := zD.1 h
 rw [← e, List.set_getElem_self]
theorem get_neO {S : MS} {i k : Nat} {o p : MObj} (hne : i ≠ k) (h : S[k]? = some p) : (S.set i o)[k]? = some p := by rw [List.getElem?_set_ne hne]; exact h
theorem ret_tmp2S {P : Program} {fn : Func} {S S' L : MS} {R : MV → MS → Prop} {env : Env} {e : Exit} {t t' : Nat} {x y x' y' : MV} (he : e = .normal ∨ e = .ret) (hres : fn.results = #[.tmp t, .tmp t']) (hx : get env t = some x) (hx' : get env t' = some x') (hs : Sub x y) (hs' : Sub x' y') (hc : Cl S'.length y) (hc' : Cl S'.length y') (hl : S.length ≤ S'.length) (hS : ClS S') (hR : R (.tup [y, y']) S') : BodyQ P fn S R e env (S' ++ L) := by
 refine ⟨he, [x, x'], .tup [y, y'], S', L, ?_, .tup (.cons hs (.cons hs' .nil)), .tup _ (fun z hz => ?_), rfl, hl, .inr hS, hR⟩
 ·rw [hres]
  exact .tmp hx (.tmp hx' .nil)
 ·simp at hz
  rcases hz with rfl | rfl
  ·exact hc
  ·exact hc'
def prO (id t : Nat) (l : Bs) : MObj := .tcells 232 [.ref id 0, .lst (some t) 1 (l.map encY)]
def pr (S : MS) (id t : Nat) (l : Bs) : MS := (S.set id (prO id t l)).set t (.row 5 1 l.length)
theorem pr_len (S : MS) (id t : Nat) (l : Bs) : (pr S id t l).length = S.length := by simp [pr]
theorem _root_.zU2 : type_of% @pr_len := @pr_len
theorem check_spec (id : Nat) (p q : MV) (hp : p = .ptr0 ∨ p = .ref id 0) (S : MS) (h : S[id]? = some (.tcells 232 [p, q])) : MCalls Tryz.prog 171 [.ref id 0] S fun v σ' => v = .tup [] ∧ σ' = S.set id (.tcells 232 [.ref id 0, q]) := by
 rcases hp with rfl | rfl
 ·exact check_new id q S h
 ·refine (check_used id q S h).mono fun v σ' hv => ⟨hv.1, ?_⟩
  rw [hv.2, set_self_o h]
theorem cls_pr {S : MS} {id t : Nat} {l : Bs} (h : ClS S) (hid : id < S.length) (ht : t < S.length) : ClS (pr S id t l) := by
 have h1 : ClS (S.set id (prO id t l)) := cls_tc h fun x hx => by
  rcases List.mem_cons.1 hx with rfl | hx
  ·exact .ref _ _ hid
  ·rcases List.mem_cons.1 hx with rfl | hx
   ·exact zC6 ht (fun y => .int _ _) (fun y => .inr rfl)
   ·cases hx
 intro i o ho
 unfold pr at ho ⊢
 rw [List.length_set]
 rcases List.mem_or_eq_of_mem_set (zW ho) with hm | rfl
 ·obtain ⟨j, hj⟩ := List.getElem?_of_mem hm
  exact h1 j o hj
 ·exact trivial
theorem pr_norm {S : MS} {id t n : Nat} {a o : MObj} (hne : id ≠ t) : ((S.set id a).set t (.row 5 1 n)).set id o = (S.set id o).set t (.row 5 1 n) := by
 rw [List.set_comm _ _ hne.symm, List.set_set]
theorem write_spec (id t : Nat) (p : MV) (hp : p = .ptr0 ∨ p = .ref id 0) (l s : Bs) (hne : id ≠ t) (S : MS) (h : S[id]? = some (.tcells 232 [p, .lst (some t) 1 (l.map encY)])) (ht : S[t]? = some (.row 5 1 l.length)) (hlen : l.length + s.length ≤ 10000000) : MCalls Tryz.prog 125 [.ref id 0, .str (bs s)] S fun v σ' => v = .tup [.int .i64 (s.length : Int), .iface0] ∧ σ' = pr S id t (l ++ s) := by
 refine zM Tryz.func125 V Tryz.ntmps125 (zA V) ?_
 refine zW0 fun _ hcl => ?_
 rw [List.append_nil] at hcl
 have hidl := (zD.1 h).1
 have htl := (zD.1 ht).1
 have h1 : (S.set id (.tcells 232 [.ref id 0, .lst (some t) 1 (l.map encY)]))[id]? = some (.tcells 232 [.ref id 0, .lst (some t) 1 (l.map encY)]) := zO4 h
 have ht1 : (S.set id (.tcells 232 [.ref id 0, .lst (some t) 1 (l.map encY)]))[t]? = some (.row 5 1 l.length) := get_neO hne ht
 have h2 : ((S.set id (.tcells 232 [.ref id 0, .lst (some t) 1 (l.map encY)])).set t (.row 5 1 (l.length + s.length)))[id]? = some (.tcells 232 [.ref id 0, .lst (some t) 1 (l.map encY)]) := get_neO hne.symm h1
 refine zB <| qR V <| qA V V V <| qA V V V <| qN <| zB <| qR V <| qM V V V ?_
 refine qX V V V V co171 (check_spec id p _ hp (S ++ []) (zK1 h)) ?_
 rw [zC4 h]
 refine qN <| zB <| qR V <| qM V V V <| qM V V V <| qO V <| zD0 V V V <| qF V V V zB5 <| qO V <| zW3 V V (zK1 h1) ta47 V <| qM V V V <| qO V <| op_appendS V zE2 zV0 el5 V V (zK1 ht1) (by simp) (by omega) (by omega) ?_
 rw [zC4 ht1]
 refine qO V <| zD0 V V V <| qF V V V zB5 <| qO V <| op_store_T V V V (zK1 h2) sz47 V V (zA V) ?_
 rw [zC4 h2]
 refine qN <| zB <| qR V <| qM V V V <| qO V <| zU3 V zV0 V <| qA V V V <| qA V V V ?_
 have hE : ((S.set id (.tcells 232 [.ref id 0, .lst (some t) 1 (l.map encY)])).set t (.row 5 1 (l.length + s.length))).set id (.tcells 232 [.ref id 0, .lst (some t) 1 (l.map encY ++ s.map encY)]) = pr S id t (l ++ s) := by
  rw [← List.map_append, ← zG]
  exact pr_norm hne
 refine qN <| zI ?_
 exact ret_tmp2S (.inr V) Tryz.results125 V V (.refl _) (.refl _) (.int _ _) .iface0 (by simp) (by
   have := cls_pr (l := l ++ s) hcl hidl htl
   rw [← hE] at this
   exact this) ⟨rfl, hE⟩
theorem cls_gone {S : MS} {t : Nat} (h : ClS S) : ClS (S.set t .gone) := by
 intro i o ho
 rw [List.length_set]
 rcases List.mem_or_eq_of_mem_set (zW ho) with hm | rfl
 ·obtain ⟨j, hj⟩ := List.getElem?_of_mem hm
  exact h j o hj
 ·exact trivial
theorem string_spec (id t : Nat) (l : Bs) (hl0 : l ≠ []) (hne : id ≠ t) (S : MS) (h : S[id]? = some (.tcells 232 [.ref id 0, .lst (some t) 1 (l.map encY)])) (ht : S[t]? = some (.row 5 1 l.length)) (hlen : l.length ≤ 10000000) : MCalls Tryz.prog 66 [.ref id 0] S fun v σ' => v = .str (bs l) ∧ σ' = S.set t .gone := by
 refine zM Tryz.func66 V Tryz.ntmps66 (zA V) ?_
 refine zW0 fun _ hcl => ?_
 rw [List.append_nil] at hcl
 have htl := (zD.1 ht).1
 have hg1 : (S.set t MObj.gone)[id]? = some (.tcells 232 [.ref id 0, .lst (some t) 1 (l.map encY)]) := get_neO hne.symm h
 have hg2 : (S.set t MObj.gone ++ [MObj.pin 5 l])[id]? = some (.tcells 232 [.ref id 0, .lst (some t) 1 (l.map encY)]) := zK1 hg1
 refine zB <| qR V <| qA V V V <| qN <| zB ?_
 refine zX0 [4, 10] [_, (S.set t .gone) ++ [MObj.pin 5 l], (S.set t .gone) ++ [MObj.gone]] mo (by decide) V V V V ?_
 refine zU V V (.cons (zY V V Vv) (.cons (zY V V Vv) (.cons (zY V V Vv) (.nil)))) <| zU V V (.cons (zD0 V V V Vv) (.cons (zD0 V V V Vv) (.cons (zD0 V V V Vv) (.nil)))) <| zU V V (.cons (zE V V zB5 Vv) (.cons (zE V V zB5 Vv) (.cons (zE V V zB5 Vv) (.nil)))) <| dO V V V (zW3 V V (by first | exact zK1 h | exact zK1 hg1 | exact zK1 hg2) ta47 V Vv) ?_
 refine zB1 V V V V (op_sliceData V V hl0 (zK1 ht) V ⟨rfl, by rw [List.append_nil]⟩) ?_
 refine zU V V (.cons (zY V V Vv) (.cons (zY V V Vv) (.cons (zY V V Vv) (.nil)))) <| zU V V (.cons (zD0 V V V Vv) (.cons (zD0 V V V Vv) (.cons (zD0 V V V Vv) (.nil)))) <| zU V V (.cons (zE V V zB5 Vv) (.cons (zE V V zB5 Vv) (.cons (zE V V zB5 Vv) (.nil)))) <| zU V V (.cons (zW3 V V (by first | exact zK1 h | exact zK1 hg1 | exact zK1 hg2) ta47 V Vv) (.cons (zW3 V V (by first | exact zK1 h | exact zK1 hg1 | exact zK1 hg2) ta47 V Vv) (.cons (zW3 V V (by first | exact zK1 h | exact zK1 hg1 | exact zK1 hg2) ta47 V Vv) (.nil)))) ?_
 refine zU V V (.cons (zW1 V zE2 V Vv) (.cons (zW1 V zE2 V Vv) (.nil))) <| zB1 V V V V (op_unsafeString V Tryz.underlying197 (by kernel_rfl) V V (by rw [zF]) hl0 (by simp only [maxLen]; omega) (by rw [List.append_nil]; simp) ⟨rfl, by rw [List.append_nil]; simp⟩) ?_
 refine dO V V V (zF1 V V Vv) <| zP0 <| zI ?_
 exact zG4 (.inr V) Tryz.results66 V (.refl _) (.str _) (by simp) (cls_gone hcl) Vv
end Go.Proofs.YtciimaabeabkdaaGreatDoor
namespace Go.MV
open Go Go.RowKit
section
section
variable {P : Program} {rd : Option Nat} {o : Oper} {env : Env} {σ : MS} {K : MV → MS → Prop}
theorem Rel.shut {g : Gh} {w : World} (hr : Rel g σ w) {t e n b c : Nat} {l : Bs} (hσ : σ[t]? = some (.row e 1 n)) (hn : l.length = n) (hlg : g.lg t n = some (.slice (some ⟨b, 0, none⟩) n c)) (hcell : ∀ j x, l[j]? = some x → w.cell? ⟨b, j, none⟩ = some (.int .u8 (x.toNat : Int))) :
  Rel g (σ.set t (.shut e l)) w := by
 obtain ⟨own, ho⟩ := hr.ex
 have htl : t < σ.length := (zD.1 hσ).1
 obtain ⟨v0, us0, f1, f2, f3, f4, f5⟩ := ho.obj t _ hσ
 have f1' := f1
 rw [hlg] at f1
 injection f1 with f1
 subst f1
 have hob : own t = some b := f3.symm
 rcases f2.2 with ⟨hv0, _⟩ | ⟨b', cap, cur, hv0, hbB, hheap, hnc, hcm, hcs, htake⟩
 ·cases hv0
 injection hv0 with e1 e2 e3
 injection e1 with e1
 injection e1 with e1
 subst e1
 refine ⟨hr.below, hr.base, hr.fresh, fun i hi => hr.bkn i (by simpa using hi), fun s k hs => hr.lgn s k (by simpa using hs), own, ⟨fun i ob hi => ?_, ho.inj, fun i d hi => by simpa using ho.lt i d hi⟩⟩
 by_cases ei : i = t
 ·subst ei
  rw [List.getElem?_set_self htl] at hi
  injection hi with hi
  subst hi
  refine ⟨b, c, cur, (0, 0), hob, by rw [hn]; exact hlg, by rw [f4 b hob, hn, Nat.mul_one], hheap, by rw [hcs, hn]; omega, fun j x hj => ?_⟩
  have := hcell j x hj
  simpa [World.cell?, hheap] using this
 ·rw [List.getElem?_set_ne (fun h => ei h.symm)] at hi
  exact ho.obj i ob hi
theorem op_sliceDataR {u e id n : Nat} {x : Operand} {l : Bs} (ho : o.op = .call { callee := .builtin .unsafeSliceData, args := #[x], argTypes := #[u] }) (hx : evo env x = some (.lst (some id) 1 (l.map encY))) (hl : l ≠ []) (hσ : σ[id]? = some (.row e 1 n)) (hn : l.length = n)
  (hK : K (.orf id n 0) (σ.set id (.shut e l))) : OpWp P rd o env σ K := by
 refine OpWp.of_run (by simp [ho]) fun g w a hr hop => ?_
 obtain ⟨ad, c, us, hv, h1, h2, h3, h4, h5, h6⟩ := (hop x (by simp [ho, Op.operands, Call.operands]) _ hx).inv_lst
 have hpos : 0 < l.length := List.length_pos_iff.2 hl
 have hlg := h6 id rfl
 obtain ⟨own, hown⟩ := hr.ex
 obtain ⟨v0, us0, f1, f2, f3, f4, f5⟩ := hown.obj id _ hσ
 rw [zF, hn] at hlg
 rw [f1] at hlg
 injection hlg with hlg
 rcases f2.2 with ⟨hv0, hn0⟩ | ⟨b, cap, cur, hv0, hbB, hheap, hnc, hcm, hcs, htake⟩
 ·omega
 have hv1 : Value.slice ad (l.map encY).length c = .slice (some ⟨b, 0, none⟩) n cap := by rw [← hv, ← hlg, hv0]
 injection hv1 with e1 e2 e3
 subst e1 e3
 have hrds : us = l.map fun c => Value.int .u8 (c.toNat : Int) := by
  rw [flat_encY] at h4
  rw [us_bytes h4, List.map_map]
  rfl
 have hr' := hr.shut (l := l) hσ hn (by rw [f1, hv0]) (fun j x hj => by
  obtain ⟨ad2, q1, q2⟩ := h5 j (.int .u8 (x.toNat : Int)) (by rw [hrds, zH0, hj]; rfl)
  injection q1 with q1
  subst q1
  have := q2.2.1
  simpa [zB4] using this)
 refine ⟨.pointer (some ⟨b, 0, none⟩), w, ?_, ⟨_, _, g, hK, hr', .orf _ _ _ b c (by rw [f1, hv0]), .refl _ _⟩⟩
 rw [zF] at hv h1
 have hrun := fun ts ty => Lib.run_unsafeSliceData_row (P := P) w ts ty ⟨b, 0, none⟩ l.length c (by omega)
 simp [execOp, ho, resolve, invoke, builtin, hv, hrun]
theorem op_sliceDataS {u e id : Nat} {x : Operand} {l : Bs} (ho : o.op = .call { callee := .builtin .unsafeSliceData, args := #[x], argTypes := #[u] }) (hx : evo env x = some (.lst (some id) 1 (l.map encY))) (hl : l ≠ []) (hσ : σ[id]? = some (.shut e l))
  (hK : K (.orf id l.length 0) σ) : OpWp P rd o env σ K := by
 refine OpWp.of_run (by simp [ho]) fun g w a hr hop => ?_
 obtain ⟨ad, c, us, hv, h1, h2, h3, h4, h5, h6⟩ := (hop x (by simp [ho, Op.operands, Call.operands]) _ hx).inv_lst
 have hpos : 0 < l.length := List.length_pos_iff.2 hl
 have hlg := h6 id rfl
 obtain ⟨own, hown⟩ := hr.ex
 obtain ⟨b, c', cur, fr, f1, f2, f3, f4, f5⟩ := hown.obj id _ hσ
 rw [zF] at hlg
 rw [f2] at hlg
 injection hlg with hlg
 have hv1 : Value.slice ad (l.map encY).length c = .slice (some ⟨b, 0, none⟩) l.length c' := by rw [← hv, ← hlg]
 injection hv1 with e1 e2 e3
 subst e1 e3
 refine ⟨.pointer (some ⟨b, 0, none⟩), w, ?_, .same hK hr (.orf _ _ _ b c f2)⟩
 rw [zF] at hv h1
 have hrun := fun ts ty => Lib.run_unsafeSliceData_row (P := P) w ts ty ⟨b, 0, none⟩ l.length c (by omega)
 simp [execOp, ho, resolve, invoke, builtin, hv, hrun]
theorem freeze_self {w : World} {b n : Nat} {cur : Array Value} {ty : TypeId} {fr : Nat × Nat} (h : w.heap[b]? = some (.cells cur ty fr)) : ∃ fr', (w.freeze ⟨b, 0, none⟩ n).heap[b]? = some (.cells cur ty fr') := by
 obtain ⟨lo, hi⟩ := fr
 unfold World.freeze
 split
 ·exact ⟨_, h⟩
 ·simp only [Array.getElem?_modify, if_pos, h, Option.map_some]
  exact ⟨_, rfl⟩
theorem op_unsafeStringS {t t' e id n : Nat} {x y : Operand} {l : Bs} {m : Int} (ho : o.op = .call { callee := .builtin .unsafeString, args := #[x, y], argTypes := #[t, t'] }) (hu : P.underlying t = some (.pointer e)) (hc : P.cellsOf e = 1) (hx : evo env x = some (.orf id n 0)) (hy : evo env y = some (.int .i64 m)) (hm : m = (l.length : Int)) (hn : n = l.length) (hl : l ≠ []) (hlen : l.length ≤ maxLen) (hσ : σ[id]? = some (.shut e l))
  (hK : K (.str (bs l)) σ) : OpWp P rd o env σ K := by
 subst hm hn
 refine OpWp.of_run (by simp [ho]) fun g w a hr hop => ?_
 obtain ⟨b', c0, hb', hv⟩ := (hop x (by simp [ho, Op.operands, Call.operands]) _ hx).inv_orf
 have hv2 := (hop y (by simp [ho, Op.operands, Call.operands]) _ hy).inv_int
 obtain ⟨own, hown⟩ := hr.ex
 obtain ⟨b, c', cur, fr, e1, e2, e3, e4, e5, e6⟩ := hown.obj _ _ hσ
 rw [hb'] at e2
 injection e2 with e2
 injection e2 with e2 e7 e8
 injection e2 with e2
 injection e2 with e2
 subst e2
 have hrun := fun ty => Lib.run_unsafeString_row (P := P) w t t' ty e hu hc b' cur.size (by simp [World.shape?, e4]) l hl e5 (by simp only [maxLen] at hlen; omega) (fun j x hj => by
  rw [zB4, Nat.zero_add]
  simp [World.cell?, e4, e6 j x hj])
 have hle : Le g w g (w.freeze ⟨b', 0, none⟩ l.length) := by
  refine ⟨⟨rfl, rfl, fun c i hi => ⟨hi, freeze_cell _⟩, fun _ _ h => h, fun _ _ _ h => h, by rw [freeze_size]; exact Nat.le_refl _⟩, fun c q hq => ?_⟩
  rw [freeze_other]
  ·exact hq
  ·rintro rfl
   rw [e4] at hq
   cases hq
 refine ⟨.string (bs l), _, ?_, ⟨_, _, g, hK, ?_, .str _, hle⟩⟩
 ·simp [execOp, ho, resolve, invoke, builtin, hv, hv2, hrun]
  rfl
 ·have hB := (hown.lt id b' e1).2.1
  refine ⟨?_, hr.base, fun c hc => hr.fresh c (by rw [freeze_size] at hc; exact hc), hr.bkn, hr.lgn, own, ⟨fun i ob hi => ?_, hown.inj, fun i c hi => ?_⟩⟩
  ·exact Lib.below_freeze hr.below (p := ⟨b', 0, none⟩) hB _
  ·by_cases ei : i = id
   ·subst ei
    rw [hσ] at hi
    injection hi with hi
    subst hi
    obtain ⟨fr', h4⟩ := freeze_self (n := l.length) e4
    exact ⟨b', c', cur, fr', e1, by rw [hb', ← e8], e3, h4, e5, e6⟩
   ·refine (hown.obj i ob hi).keep0 hle.toLe0 (fun c hc => ⟨freeze_other ?_, rfl⟩) (fun _ => V)
    rintro rfl
    exact ei (hown.inj _ _ _ hc e1)
  ·obtain ⟨h1, h2, h3⟩ := hown.lt i c hi
   exact ⟨h1, h2, by rw [freeze_size]; exact h3⟩
end
end
end Go.MV
namespace Go.Proofs.YtciimaabeabkdaaGreatDoor
open Go Go.MV Go.RowKit
theorem checkW_new (id : Nat) (q T : MV) (S : MS) (h : S[id]? = some (.tcells 121 [.ptr0, q, T])) : MCalls Tryz.prog 171 [.ref id 0] S fun v σ' => v = .tup [] ∧ σ' = S.set id (.tcells 121 [.ref id 0, q, T]) := by
 refine zM Tryz.func171 V Tryz.ntmps171 (zA V) ?_
 refine zW0 fun _ hcl => ?_
 rw [List.append_nil] at hcl
 have hidl := (zD.1 h).1
 refine zB <| qR V <| qM V V V <| qO V <| zD0 V V V <| qF V V V fo119_0 <| qO V <| zW3 V V (zK1 h) ta117 V <| qO V <| op_ptr0 V zG3 V V (.inl Vv) <| qN <| zT V (V) <| qR V <| qM V V V <| qM V V V <| qO V <| op_toUnsafe V zG3 Tryz.underlying239 (k := 2) (by kernel_rfl) (by decide) V (zK1 h) (by simp) ?_
 refine qO V <| op_same V V Tryz.func217 (by kernel_rfl) (by kernel_rfl) (by kernel_rfl) (by kernel_rfl) V ?_
 refine qO V <| op_fromUnsafe V Tryz.underlying239 zG3 (k := 2) (by kernel_rfl) V (zK1 h) (by kernel_rfl) ?_
 refine qO V <| zD0 V V V <| qF V V V fo119_0 <| qO V <| op_store_T V V V (zK1 h) sz117 V V (zA V) ?_
 rw [zC4 h]
 refine qN ?_
 exact zB2 (by simp) Tryz.results171 (by simp) (cls_tc hcl (fun x hx => by
   have hob := hcl id _ h
   rcases List.mem_cons.1 hx with rfl | hx
   ·exact .ref _ _ hidl
   ·exact hob x (.tail _ hx))) ⟨rfl, rfl⟩
theorem checkW_used (id : Nat) (q T : MV) (S : MS) (h : S[id]? = some (.tcells 121 [.ref id 0, q, T])) : MCalls Tryz.prog 171 [.ref id 0] S fun v σ' => v = .tup [] ∧ σ' = S := by
 refine zM Tryz.func171 V Tryz.ntmps171 (zA V) ?_
 refine zW0 fun _ hcl => ?_
 rw [List.append_nil] at hcl
 refine zB <| qR V <| qM V V V <| qO V <| zD0 V V V <| qF V V V fo119_0 <| qO V <| zW3 V V (zK1 h) ta117 V <| qO V <| op_ptrnil V zG3 V V V (.inl Vv) <| qN <| zL V (V) <| zB <| qR V <| qM V V V <| qO V <| zD0 V V V <| qF V V V fo119_0 <| qO V <| zW3 V V (zK1 h) ta117 V <| qM V V V <| qO V <| op_ptrsame V zG3 (k := 2) (by kernel_rfl) (by decide) V V (.inr Vv) ?_
 refine qN <| zL V (V) <| zQ ?_
 exact zB2 (by simp) Tryz.results171 (by simp) hcl Vv
def wrO (id t : Nat) (l : Bs) (T : MV) : MObj := .tcells 121 [.ref id 0, .lst (some t) 1 (l.map encY), T]
def wr (S : MS) (id t : Nat) (l : Bs) (T : MV) : MS := (S.set id (wrO id t l T)).set t (.row 5 1 l.length)
theorem wr_len (S : MS) (id t : Nat) (l : Bs) (T : MV) : (wr S id t l T).length = S.length := by simp [wr]
theorem _root_.zP4 : type_of% @wr_len := @wr_len
theorem checkW_spec (id : Nat) (p q T : MV) (hp : p = .ptr0 ∨ p = .ref id 0) (S : MS) (h : S[id]? = some (.tcells 121 [p, q, T])) : MCalls Tryz.prog 171 [.ref id 0] S fun v σ' => v = .tup [] ∧ σ' = S.set id (.tcells 121 [.ref id 0, q, T]) := by
 rcases hp with rfl | rfl
 ·exact checkW_new id q T S h
 ·refine (checkW_used id q T S h).mono fun v σ' hv => ⟨hv.1, ?_⟩
  rw [hv.2, set_self_o h]
theorem cls_wr {S : MS} {id t : Nat} {l : Bs} {T : MV} (h : ClS S) (hid : id < S.length) (ht : t < S.length) (hT : Cl S.length T) : ClS (wr S id t l T) := by
 have h1 : ClS (S.set id (wrO id t l T)) := cls_tc h fun x hx => by
  simp only [List.mem_cons, List.not_mem_nil, or_false] at hx
  rcases hx with rfl | rfl | rfl
  ·exact .ref _ _ hid
  ·exact zC6 ht (fun y => .int _ _) (fun y => .inr rfl)
  ·exact hT
 intro i o ho
 unfold wr at ho ⊢
 rw [List.length_set]
 rcases List.mem_or_eq_of_mem_set (zW ho) with hm | rfl
 ·obtain ⟨j, hj⟩ := List.getElem?_of_mem hm
  exact h1 j o hj
 ·exact trivial
theorem writeW_spec (id t : Nat) (p T : MV) (hp : p = .ptr0 ∨ p = .ref id 0) (l s : Bs) (hne : id ≠ t) (S : MS) (h : S[id]? = some (.tcells 121 [p, .lst (some t) 1 (l.map encY), T])) (ht : S[t]? = some (.row 5 1 l.length)) (hlen : l.length + s.length ≤ 10000000) : MCalls Tryz.prog 125 [.ref id 0, .str (bs s)] S fun v σ' => v = .tup [.int .i64 (s.length : Int), .iface0] ∧ σ' = wr S id t (l ++ s) T := by
 refine zM Tryz.func125 V Tryz.ntmps125 (zA V) ?_
 refine zW0 fun _ hcl => ?_
 rw [List.append_nil] at hcl
 have hidl := (zD.1 h).1
 have htl := (zD.1 ht).1
 have h1 : (S.set id (.tcells 121 [.ref id 0, .lst (some t) 1 (l.map encY), T]))[id]? = some (.tcells 121 [.ref id 0, .lst (some t) 1 (l.map encY), T]) := zO4 h
 have ht1 : (S.set id (.tcells 121 [.ref id 0, .lst (some t) 1 (l.map encY), T]))[t]? = some (.row 5 1 l.length) := get_neO hne ht
 have h2 : ((S.set id (.tcells 121 [.ref id 0, .lst (some t) 1 (l.map encY), T])).set t (.row 5 1 (l.length + s.length)))[id]? = some (.tcells 121 [.ref id 0, .lst (some t) 1 (l.map encY), T]) := get_neO hne.symm h1
 have hT : Cl S.length T := hcl id _ h T (by simp)
 refine zB <| qR V <| qA V V V <| qA V V V <| qN <| zB <| qR V <| qM V V V ?_
 refine qX V V V V co171 (checkW_spec id p _ T hp (S ++ []) (zK1 h)) ?_
 rw [zC4 h]
 refine qN <| zB <| qR V <| qM V V V <| qM V V V <| qO V <| zD0 V V V <| qF V V V zB5 <| qO V <| zW3 V V (zK1 h1) ta47 V <| qM V V V <| qO V <| op_appendS V zE2 zV0 el5 V V (zK1 ht1) (by simp) (by omega) (by omega) ?_
 rw [zC4 ht1]
 refine qO V <| zD0 V V V <| qF V V V zB5 <| qO V <| op_store_T V V V (zK1 h2) sz47 V V (zA V) ?_
 rw [zC4 h2]
 refine qN <| zB <| qR V <| qM V V V <| qO V <| zU3 V zV0 V <| qA V V V <| qA V V V ?_
 have hE : ((S.set id (.tcells 121 [.ref id 0, .lst (some t) 1 (l.map encY), T])).set t (.row 5 1 (l.length + s.length))).set id (.tcells 121 [.ref id 0, .lst (some t) 1 (l.map encY ++ s.map encY), T]) = wr S id t (l ++ s) T := by
  rw [← List.map_append, ← zG]
  exact pr_norm hne
 refine qN <| zI ?_
 exact ret_tmp2S (.inr V) Tryz.results125 V V (.refl _) (.refl _) (.int _ _) .iface0 (by simp) (by
   have := cls_wr (l := l ++ s) hcl hidl htl hT
   rw [← hE] at this
   exact this) ⟨rfl, hE⟩
theorem cls_shut {S : MS} {t : Nat} {l : Bs} (h : ClS S) : ClS (S.set t (.shut 5 l)) := by
 intro i o ho
 rw [List.length_set]
 rcases List.mem_or_eq_of_mem_set (zW ho) with hm | rfl
 ·obtain ⟨j, hj⟩ := List.getElem?_of_mem hm
  exact h j o hj
 ·exact trivial
theorem stringW_spec (id t : Nat) (l : Bs) (T : MV) (hl0 : l ≠ []) (hne : id ≠ t) (S : MS) (h : S[id]? = some (.tcells 121 [.ref id 0, .lst (some t) 1 (l.map encY), T])) (ht : S[t]? = some (.row 5 1 l.length)) (hlen : l.length ≤ 10000000) : MCalls Tryz.prog 66 [.ref id 0] S fun v σ' => v = .str (bs l) ∧ σ' = S.set t (.shut 5 l) := by
 refine zM Tryz.func66 V Tryz.ntmps66 (zA V) ?_
 refine zW0 fun _ hcl => ?_
 rw [List.append_nil] at hcl
 have htl := (zD.1 ht).1
 have hg1 : (S.set t (.shut 5 l))[id]? = some (.tcells 121 [.ref id 0, .lst (some t) 1 (l.map encY), T]) := get_neO hne.symm h
 have hg2 : (S.set t (.shut 5 l))[t]? = some (.shut 5 l) := zO4 ht
 refine zB <| qR V <| qA V V V <| qN <| zB ?_
 refine zX0 [4, 10] [_, (S.set t (.shut 5 l)), (S.set t (.shut 5 l)) ++ []] mo (by decide) V V V V ?_
 refine zU V V (.cons (zY V V Vv) (.cons (zY V V Vv) (.cons (zY V V Vv) (.nil)))) <| zU V V (.cons (zD0 V V V Vv) (.cons (zD0 V V V Vv) (.cons (zD0 V V V Vv) (.nil)))) <| zU V V (.cons (zE V V zB5 Vv) (.cons (zE V V zB5 Vv) (.cons (zE V V zB5 Vv) (.nil)))) <| dO V V V (zW3 V V (by first | exact zK1 h | exact hg1 | exact zK1 hg1) ta47 V Vv) ?_
 refine zB1 V V V V (op_sliceDataR V V hl0 (zK1 ht) V ⟨rfl, by rw [zC4 ht, List.append_nil]⟩) ?_
 refine zU V V (.cons (zY V V Vv) (.cons (zY V V Vv) (.cons (zY V V Vv) (.nil)))) <| zU V V (.cons (zD0 V V V Vv) (.cons (zD0 V V V Vv) (.cons (zD0 V V V Vv) (.nil)))) <| zU V V (.cons (zE V V zB5 Vv) (.cons (zE V V zB5 Vv) (.cons (zE V V zB5 Vv) (.nil)))) <| zU V V (.cons (zW3 V V (by first | exact zK1 h | exact hg1 | exact zK1 hg1) ta47 V Vv) (.cons (zW3 V V (by first | exact zK1 h | exact hg1 | exact zK1 hg1) ta47 V Vv) (.cons (zW3 V V (by first | exact zK1 h | exact hg1 | exact zK1 hg1) ta47 V Vv) (.nil)))) ?_
 refine zU V V (.cons (zW1 V zE2 V Vv) (.cons (zW1 V zE2 V Vv) (.nil))) <| zB1 V V V V (op_unsafeStringS V Tryz.underlying197 (by kernel_rfl) V V (by rw [zF]) V hl0 (by simp only [maxLen]; omega) (by first | exact hg2 | exact zK1 hg2) ⟨rfl, by rw [List.append_nil]⟩) ?_
 refine dO V V V (zF1 V V Vv) <| zP0 <| zI ?_
 exact zG4 (.inr V) Tryz.results66 V (.refl _) (.str _) (by simp) (cls_shut hcl) Vv
theorem stringW2_spec (id t : Nat) (l : Bs) (T : MV) (hl0 : l ≠ []) (S : MS) (h : S[id]? = some (.tcells 121 [.ref id 0, .lst (some t) 1 (l.map encY), T])) (ht : S[t]? = some (.shut 5 l)) (hlen : l.length ≤ 10000000) : MCalls Tryz.prog 66 [.ref id 0] S fun v σ' => v = .str (bs l) ∧ σ' = S := by
 refine zM Tryz.func66 V Tryz.ntmps66 (zA V) ?_
 refine zW0 fun _ hcl => ?_
 rw [List.append_nil] at hcl
 refine zB <| qR V <| qA V V V <| qN <| zB ?_
 refine zX0 [] [_] mo (by decide) V V V V ?_
 refine dO V V V (zY V V Vv) <| dO V V V (zD0 V V V Vv) <| dO V V V (zE V V zB5 Vv) <| dO V V V (zW3 V V (zK1 h) ta47 V Vv) <| dO V V V (op_sliceDataS V V hl0 (zK1 ht) Vv) <| dO V V V (zY V V Vv) <| dO V V V (zD0 V V V Vv) <| dO V V V (zE V V zB5 Vv) <| dO V V V (zW3 V V (zK1 h) ta47 V Vv) <| dO V V V (zW1 V zE2 V Vv) <| dO V V V (op_unsafeStringS V Tryz.underlying197 (by kernel_rfl) V V (by rw [zF]) V hl0 (by simp only [maxLen]; omega) (by first | exact ht | exact zK1 ht) Vv) ?_
 refine dO V V V (zF1 V V Vv) <| zP0 <| zI ?_
 exact zG4 (.inr V) Tryz.results66 V (.refl _) (.str _) (by simp) hcl Vv
end Go.Proofs.YtciimaabeabkdaaGreatDoor
namespace Go.MV
open Go Go.RowKit
def rGood (b r : Bs) : Prop := r.take 8 = leB 8 (hashB (b.take (b.length - r.length)))
instance (b r : Bs) : Decidable (rGood b r) := inferInstanceAs (Decidable (_ = _))
section
section
variable {P : Program} {rd : Option Nat} {N n : Nat} {Q : Exit → Env → MS → Prop} {env : Env} {σ : MS}
theorem mwp_joinX {c rest : Code} {E : Env} (σ3 : MS) (φ : Prop) (h1 : mwp P rd N n c (fun e env1 σ1 => (e = .normal ∧ σ1 = σ3 ∧ EnvSub env1 E ∧ φ) ∨ (e ≠ .normal ∧ Q e env1 σ1)) env σ) (h2 : φ → mwp P rd N n rest Q E σ3) : mwp P rd N n (.seq c rest) Q env σ := by
 refine zB (mwp_mono h1 ?_)
 rintro e env1 σ1 (⟨rfl, rfl, hs, hφ⟩ | ⟨hne, hq⟩)
 ·exact mwp_env hs.get_ (h2 hφ)
 ·cases e with
  | normal => exact absurd rfl hne
  | _ => exact hq
theorem wOps_at {rest : List Oper} {ops : Array Oper} {W : Env → MS → Prop} (σ' : MS) (e : σ = σ') (h : wOps P rd ops W rest env σ') : wOps P rd ops W rest env σ := e ▸ h
theorem _root_.zU6 : type_of% @wOps_at := @wOps_at
end
end
end Go.MV
section
namespace Go.MV
open Go Go.RowKit
def eAt (h : Int) (i : Nat) : UInt8 := UInt8.ofNat (IntKind.u8.wrap (h.fdiv (2 ^ min ((8 * i : Nat) : Int).toNat IntKind.u64.bits))).toNat
def eUp (h : Int) (i : Nat) : Bs := (List.range i).map (eAt h)
theorem eUp_len (h : Int) (i : Nat) : (eUp h i).length = i := by simp [eUp]
theorem eUp_succ (h : Int) (i : Nat) : eUp h (i + 1) = eUp h i ++ [eAt h i] := by simp [eUp, List.range_succ]
theorem fdiv_pow (h : Int) (a b : Nat) : (h.fdiv (2 ^ a)).fdiv (2 ^ b) = h.fdiv (2 ^ (a + b)) := by
 have hp : ∀ k : Nat, (0 : Int) ≤ 2 ^ k := fun k => Int.le_of_lt (Int.pow_pos (by decide))
 rw [Int.fdiv_eq_ediv_of_nonneg _ (hp _), Int.fdiv_eq_ediv_of_nonneg _ (hp _), Int.fdiv_eq_ediv_of_nonneg _ (hp _), Int.ediv_ediv_of_nonneg (hp _), Int.pow_add]
theorem eight_eq (h : Int) : eUp h 8 = leB 8 h := by
 have s8 : min (8 : Int).toNat IntKind.u64.bits = 8 := rfl
 have e : ∀ i, i ≤ 7 → min ((8 * i : Nat) : Int).toNat IntKind.u64.bits = 8 * i := fun i hi => by
  show min (8 * i) 64 = 8 * i
  omega
 simp only [leB, s8, fdiv_pow]
 have h0 : eAt h 0 = UInt8.ofNat (IntKind.u8.wrap h).toNat := by
  unfold eAt
  rw [e 0 (by omega)]
  simp
 simp only [eUp, show List.range 8 = [0, 1, 2, 3, 4, 5, 6, 7] from rfl, List.map_cons, List.map_nil, h0]
 simp only [eAt, e 1 (by omega), e 2 (by omega), e 3 (by omega), e 4 (by omega), e 5 (by omega), e 6 (by omega), e 7 (by omega)]
abbrev RdX := Bs × Int
def xo (r : RdX) : MObj := .cells [.str (bs r.1), .int .i64 r.2]
theorem slX {S L : MS} {id : Nat} {o : MObj} (h : S[id]? = some o) : (S ++ L)[id]? = some o := by rw [List.getElem?_append_left (zD.1 h).1]; exact h
theorem set_slX {S L : MS} {id : Nat} {o p : MObj} (h : S[id]? = some o) : (S ++ L).set id p = S.set id p ++ L := List.set_append_left _ _ (zD.1 h).1
theorem eb_get {h : Int} {i : Nat} (hi : i < 8) : setMany ((eUp h i).map encY ++ List.replicate (8 - i) (.int .u8 0)) (0 + i * 1) [.int .u8 ((eAt h i).toNat : Int)] = (eUp h (i + 1)).map encY ++ List.replicate (8 - (i + 1)) (.int .u8 0) := by
 have e1 : ((eUp h i).map encY).length = i := by rw [zF, eUp_len]
 have e2 : List.replicate (8 - i) (MV.int .u8 0) = MV.int .u8 0 :: List.replicate (8 - (i + 1)) (.int .u8 0) := by
  rw [show 8 - i = (8 - (i + 1)) + 1 by omega]
  rfl
 rw [eUp_succ, setMany, Nat.zero_add, Nat.mul_one, e2]
 rw [List.take_append_of_le_length (by omega), List.take_of_length_le (by omega)]
 rw [List.length_singleton, List.drop_append, e1, List.drop_eq_nil_of_le (by omega), show i + 1 - i = 1 by omega]
 simp [encY]
theorem eb_st {S : MS} {h : Int} {i : Nat} (hi : i < 8) : (S ++ [MObj.cells ((eUp h i).map encY ++ List.replicate (8 - i) (.int .u8 0))]).set S.length (.cells (setMany ((eUp h i).map encY ++ List.replicate (8 - i) (.int .u8 0)) (0 + i * 1) [.int .u8 ((eAt h i).toNat : Int)])) = S ++ [MObj.cells ((eUp h (i + 1)).map encY ++ List.replicate (8 - (i + 1)) (.int .u8 0))] := by
 rw [eb_get hi]
 simp
theorem eb_take (h : Int) : (((eUp h 8).map encY ++ List.replicate (8 - 8) (MV.int .u8 0)).drop 0).take (eUp h 8).length = (eUp h 8).map encY := by
 rw [List.drop_zero, Nat.sub_self, List.replicate_zero, List.append_nil, List.take_of_length_le (by simp)]
end Go.MV
namespace Go.Proofs.YtciimaabeabkdaaGreatDoor
open Go Go.MV
def RdsX {α : Type} (k : FuncId) (xs : List MV) (id : Nat) (en : α → MV) (M : RdX → α × RdX) : Prop := ∀ (r : RdX) (S : MS), S[id]? = some (xo r) → r.1.length ≤ 8000000 → MCalls Tryz.prog k xs S fun v σ' => v = en (M r).1 ∧ σ' = S.set id (xo (M r).2)
theorem RdsX.sl {α : Type} {k : FuncId} {xs : List MV} {id : Nat} {en : α → MV} {M : RdX → α × RdX} (h : RdsX k xs id en M) {r : RdX} {S L : MS} (hr : S[id]? = some (xo r)) (hl : r.1.length ≤ 8000000) : MCalls Tryz.prog k xs (S ++ L) fun v σ' => v = en (M r).1 ∧ σ' = S.set id (xo (M r).2) ++ L :=
 (h r (S ++ L) (slX hr) hl).mono fun v σ' hv => ⟨hv.1, by rw [hv.2, set_slX hr]⟩
end Go.Proofs.YtciimaabeabkdaaGreatDoor
end
namespace Go.MV
open Go Go.RowKit
section
section
variable {P : Program} {rd : Option Nat} {o : Oper} {env : Env} {σ : MS} {K : MV → MS → Prop}
theorem op_indexAddr_arr {t e : TypeId} {len sz id off i : Nat} {x y : Operand} {k : IntKind} {n : Int} (ho : o.op = .indexAddr t x y) (hu : P.underlying t = some (.array len e)) (hs : szOf P e = some sz) (hx : evo env x = some (.ref id off)) (hy : evo env y = some (.int k n)) (hn : n = (i : Int)) (hi : i < len) (h : K (.ref id (off + i * sz)) σ) : OpWp P rd o env σ K := by
 subst hn
 refine OpWp.of_run (by simp [ho]) fun g w a hr hop => ?_
 obtain ⟨b, hb, e1⟩ := (hop x (by simp [ho, Op.operands]) _ hx).inv_ref
 have e2 := (hop y (by simp [ho, Op.operands]) _ hy).inv_int
 refine ⟨.pointer (some ⟨b, off + i * sz, none⟩), w, ?_, .same h hr (.ref _ _ b hb)⟩
 simp [execOp, ho, Instr.indexAt, e1, e2, asIntOf, run_underlying hu, Instr.sureAddr, hi, zO5 hs, zB4]
end
end
section
section
variable {κ : Type} (cmp : κ → κ → Int)
abbrev REnt (κ : Type) := κ × Val
abbrev Ent (κ : Type) := κ × Val × Option Val
def mergeE : List (REnt κ) → List (REnt κ) → List (Ent κ)
 | [], [] => []
 | x :: a, [] => (x.1, x.2, none) :: mergeE a []
 | [], y :: b => (y.1, y.2, none) :: mergeE [] b
 | x :: a, y :: b => if cmp x.1 y.1 < 0 then (x.1, x.2, none) :: mergeE a (y :: b) else if cmp y.1 x.1 < 0 then (y.1, y.2, none) :: mergeE (x :: a) b else (x.1, x.2, some y.2) :: mergeE a b
 termination_by a b => a.length + b.length
def stepE : List (REnt κ) × List (REnt κ) → List (REnt κ) × List (REnt κ)
 | ([], []) => ([], [])
 | (_ :: a, []) => (a, [])
 | ([], _ :: b) => ([], b)
 | (x :: a, y :: b) => if cmp x.1 y.1 < 0 then (a, y :: b) else if cmp y.1 x.1 < 0 then (x :: a, b) else (a, b)
def restE (a b : List (REnt κ)) : Nat → List (REnt κ) × List (REnt κ)
 | 0 => (a, b)
 | j + 1 => stepE cmp (restE a b j)
theorem mergeE_len : ∀ a b : List (REnt κ), (mergeE cmp a b).length ≤ a.length + b.length := by
 intro a b
 induction a, b using mergeE.induct cmp with
 | case1 => simp [mergeE]
 | case2 x a ih => rw [mergeE]; simp at ih ⊢; omega
 | case3 y b ih => rw [mergeE]; simp at ih ⊢; omega
 | case4 x a y b h ih => rw [mergeE, if_pos h]; simp at ih ⊢; omega
 | case5 x a y b h h2 ih => rw [mergeE, if_neg h, if_pos h2]; simp at ih ⊢; omega
 | case6 x a y b h h2 ih => rw [mergeE, if_neg h, if_neg h2]; simp at ih ⊢; omega
end
def ptrE : Option Val → MV
 | none => .ptr0
 | some v => .sptr (encV v).cells
def encR {κ : Type} (ek : κ → MV) (e : REnt κ) : MV := .agg [ek e.1, .sptr (encV e.2).cells, .ptr0]
def encE {κ : Type} (ek : κ → MV) (e : Ent κ) : MV := .agg [ek e.1, .sptr (encV e.2.1).cells, ptrE e.2.2]
theorem cl_sptrV (n : Nat) (v : Val) : Cl n (.sptr (encV v).cells) := .sptr _ fun x hx => by
 have h := zV1 n v
 cases v with
 | mk a b c d e =>
  cases h with
  | agg _ h => exact h x hx
theorem cl_ptrE (n : Nat) : ∀ o : Option Val, Cl n (ptrE o)
 | none => .ptr0
 | some v => cl_sptrV n v
theorem cl_encR {κ : Type} {ek : κ → MV} (hk : ∀ n k, Cl n (ek k)) (n : Nat) (e : REnt κ) : Cl n (encR ek e) := .agg _ fun x hx => by
 simp only [List.mem_cons, List.not_mem_nil, or_false] at hx
 rcases hx with rfl | rfl | rfl
 ·exact hk _ _
 ·exact cl_sptrV _ _
 ·exact .ptr0
theorem cl_encE {κ : Type} {ek : κ → MV} (hk : ∀ n k, Cl n (ek k)) (n : Nat) (e : Ent κ) : Cl n (encE ek e) := .agg _ fun x hx => by
 simp only [List.mem_cons, List.not_mem_nil, or_false] at hx
 rcases hx with rfl | rfl | rfl
 ·exact hk _ _
 ·exact cl_sptrV _ _
 ·exact cl_ptrE _ _
section
variable {P : Program} {rd : Option Nat} {o : Oper} {env : Env} {K : MV → MS → Prop} {A J C : MS}
theorem op_store_box {t : TypeId} {x y : Operand} {id off : Nat} {l : List MV} {m : MV} {k : Nat} (ho : o.op = .store t x y) (hx : evo env x = some (.ref id off)) (hy : evo env y = some m) (hσ : A[id]? = some (.cells l)) (hk : szOf P t = some k) (hm : m.cells.length = k)
  (h1 : m.cells.all MV.one = true) (hle : off + k ≤ l.length) (h : K (.tup []) ((A.set id (.cells (setMany l off m.cells)) ++ J) ++ C)) : OpWp P rd o env ((A ++ J) ++ C) K := by
 refine zQ5 ho hx hy (zS (zS hσ)) hk hm h1 hle ?_
 rw [set_app (zS hσ), set_app hσ]
 exact h
theorem _root_.zX3 : type_of% @op_store_box := @op_store_box
end
section
variable {P : Program} {fn : Func} {S S' L : MS} {R : MV → MS → Prop} {env : Env}
theorem ret_cell_tmp {e : Exit} {a t k off t2 : Nat} {l : List MV} {ta : Option Nat} {x y x2 y2 : MV} (he : e = .normal ∨ e = .ret) (hres : fn.results = #[.cell a t, .tmp t2]) (ha : get env a = some (.ref (S.length + k) off)) (hl : L[k]? = some (.cells l)) (ht : tyAgg P t = some ta) (hm : loadMV ta l off = some x) (hs : Sub x y) (hc : Cl S.length y)
  (hx2 : get env t2 = some x2) (hs2 : Sub x2 y2) (hc2 : Cl S.length y2) (hR : R (.tup [y, y2]) S) : BodyQ P fn S R e env (S ++ L) := by
 refine ⟨he, [x, x2], .tup [y, y2], S, L, ?_, .tup (.cons hs (.cons hs2 .nil)), .tup _ (fun z hz => ?_), rfl, Nat.le_refl _, .inl rfl, hR⟩
 ·rw [hres]
  exact .cell ha (by rw [getElem?_own]; exact hl) ht hm (.tmp hx2 .nil)
 ·simp only [List.mem_cons, List.not_mem_nil, or_false] at hz
  rcases hz with rfl | rfl
  ·exact hc
  ·exact hc2
theorem _root_.zN1 : type_of% @ret_cell_tmp := @ret_cell_tmp
theorem ret_cell_cell {e : Exit} {a t k off a2 t2 k2 off2 : Nat} {l l2 : List MV} {ta ta2 : Option Nat} {x y x2 y2 : MV} (he : e = .normal ∨ e = .ret) (hres : fn.results = #[.cell a t, .cell a2 t2]) (ha : get env a = some (.ref (S.length + k) off)) (hl : L[k]? = some (.cells l)) (ht : tyAgg P t = some ta) (hm : loadMV ta l off = some x) (hs : Sub x y) (hc : Cl S.length y)
  (ha2 : get env a2 = some (.ref (S.length + k2) off2)) (hl2 : L[k2]? = some (.cells l2)) (ht2 : tyAgg P t2 = some ta2) (hm2 : loadMV ta2 l2 off2 = some x2) (hs2 : Sub x2 y2) (hc2 : Cl S.length y2) (hR : R (.tup [y, y2]) S) : BodyQ P fn S R e env (S ++ L) := by
 refine ⟨he, [x, x2], .tup [y, y2], S, L, ?_, .tup (.cons hs (.cons hs2 .nil)), .tup _ (fun z hz => ?_), rfl, Nat.le_refl _, .inl rfl, hR⟩
 ·rw [hres]
  exact .cell ha (by rw [getElem?_own]; exact hl) ht hm (.cell ha2 (by rw [getElem?_own]; exact hl2) ht2 hm2 .nil)
 ·simp only [List.mem_cons, List.not_mem_nil, or_false] at hz
  rcases hz with rfl | rfl
  ·exact hc
  ·exact hc2
end
theorem get_o0 {A A' R : MS} {a b : MObj} (h : A'.length = A.length) : ((A' ++ [a, b]) ++ R)[A.length + 0]? = some a := by rw [← h]; exact zF5 (k := 0) rfl
theorem get_o1 {A A' R : MS} {a b : MObj} (h : A'.length = A.length) : ((A' ++ [a, b]) ++ R)[A.length + 1]? = some b := by rw [← h]; exact zF5 (k := 1) rfl
theorem set_o01 {A A' R : MS} {a b a' b' : MObj} (h : A'.length = A.length) : (((A' ++ [a, b]) ++ R).set (A.length + 1) b').set (A.length + 0) a' = (A' ++ [a', b']) ++ R := by
 rw [← h, set_mid_ (k := 1) (ob := b) rfl, set_mid_ (k := 0) (ob := a) rfl]
 rfl
theorem get_o0' {A A' R : MS} {a b b' : MObj} (h : A'.length = A.length) : (((A' ++ [a, b]) ++ R).set (A.length + 1) b')[A.length + 0]? = some a := by
 rw [← h, set_mid_ (k := 1) (ob := b) rfl]
 exact zF5 (k := 0) rfl
end
end Go.MV
section
namespace Go.MV
open Go Go.RowKit
def arr (P : Nat → Bool) : List MV := (List.range 256).map fun j => .bool (P j)
theorem arr_len (P : Nat → Bool) : (arr P).length = 256 := by simp [arr]
theorem _root_.zE6 : type_of% @arr_len := @arr_len
theorem arr_get {P : Nat → Bool} {c : Nat} (h : c < 256) : (arr P)[0 + c * 1]? = some (.bool (P c)) := by
 rw [Nat.zero_add, Nat.mul_one, arr, zH0, List.getElem?_range h]
 rfl
theorem arr_load (P : Nat → Bool) : loadMV (some 256) (arr P) 0 = some (.agg (arr P)) := by
 show (if 0 + 256 ≤ (arr P).length then some (MV.agg (((arr P).drop 0).take 256)) else none) = _
 rw [if_pos (by rw [zE6]; exact Nat.le_refl _), List.drop_zero, List.take_of_length_le (by rw [zE6]; exact Nat.le_refl _)]
theorem arr_set {P : Nat → Bool} {c : Nat} (h : c < 256) : setMany (arr P) (0 + c * 1) [.bool true] = arr (fun j => P j || j == c) := by
 have h1 : setMany (arr P) (0 + c * 1) [.bool true] = (arr P).set c (.bool true) := by
  rw [Nat.zero_add, Nat.mul_one, setMany, List.set_eq_take_append_cons_drop, if_pos (by rw [zE6]; exact h)]
  simp
 rw [h1]
 apply List.ext_getElem?
 intro j
 rw [List.getElem?_set]
 by_cases hj : j < 256
 ·have e1 := arr_get (P := P) hj
  have e2 := arr_get (P := fun j => P j || j == c) hj
  rw [Nat.zero_add, Nat.mul_one] at e1 e2
  rw [e2]
  by_cases hc : c = j
  ·subst hc
   rw [if_pos rfl, if_pos (by rw [zE6]; exact h)]
   simp
  ·rw [if_neg hc, e1]
   have : (j == c) = false := by simp; omega
   simp [this]
 ·rw [List.getElem?_eq_none (by rw [zE6]; omega), if_neg (by omega), List.getElem?_eq_none (by rw [zE6]; omega)]
theorem arr_store (P Q : Nat → Bool) : setMany (arr P) 0 (arr Q) = arr Q := by
 rw [setMany, List.take_zero, List.nil_append, Nat.zero_add, zE6, List.drop_eq_nil_of_le (by rw [zE6]; exact Nat.le_refl _), List.append_nil]
theorem arr_cl (P : Nat → Bool) (n : Nat) : ∀ x ∈ arr P, Cl n x := fun x hx => by
 obtain ⟨j, _, rfl⟩ := List.mem_map.1 hx
 exact .bool _
def setP (l : Bs) (j : Nat) : Bool := l.any fun c => c.toNat == j
theorem setP_nil : setP [] = fun _ => false := rfl
theorem _root_.zH : type_of% @Bool.eq_iff_iff := @Bool.eq_iff_iff
theorem setP_succ {l : Bs} {i : Nat} {c : UInt8} (h : l[i]? = some c) : setP (l.take (i + 1)) = fun j => setP (l.take i) j || j == c.toNat := by
 funext j
 unfold setP
 rw [List.take_add_one, h, List.any_append]
 congr 1
 rw [zH]
 simp
 omega
def trR (P : Nat → Bool) (s : Bs) : Bs := (s.reverse.dropWhile fun c => P c.toNat).reverse
def trL (P : Nat → Bool) (s : Bs) : Bs := s.dropWhile fun c => P c.toNat
theorem trR_more {P : Nat → Bool} {s : Bs} {c : UInt8} (h : s[s.length - 1]? = some c) (hp : P c.toNat = true) : trR P (s.take (s.length - 1)) = trR P s := by
 have hs : s = s.take (s.length - 1) ++ [c] := by
  have hlt := (zD.1 h).1
  have h1 : s.take (s.length - 1 + 1) = s := List.take_of_length_le (by omega)
  rw [List.take_add_one, h] at h1
  exact h1.symm
 conv => rhs; rw [hs]
 unfold trR
 rw [List.reverse_append, List.reverse_singleton, List.singleton_append, List.dropWhile_cons_of_pos (p := fun c : UInt8 => P c.toNat) hp]
theorem trR_last {P : Nat → Bool} {s : Bs} {c : UInt8} (h : s[s.length - 1]? = some c) (hp : P c.toNat = false) : trR P s = s := by
 have hs : s = s.take (s.length - 1) ++ [c] := by
  have hlt := (zD.1 h).1
  have h1 : s.take (s.length - 1 + 1) = s := List.take_of_length_le (by omega)
  rw [List.take_add_one, h] at h1
  exact h1.symm
 rw [hs]
 unfold trR
 rw [List.reverse_append, List.reverse_singleton, List.singleton_append, List.dropWhile_cons_of_neg (p := fun c : UInt8 => P c.toNat) (by simp [hp])]
 simp
theorem trR_le (P : Nat → Bool) (s : Bs) : (trR P s).length ≤ s.length := by
 unfold trR
 rw [List.length_reverse]
 have := (List.dropWhile_suffix (l := s.reverse) (fun c : UInt8 => P c.toNat)).length_le
 rw [List.length_reverse] at this
 exact this
theorem tr_nil {P : Nat → Bool} {s : Bs} : trL P (trR P s) = [] ↔ s.all (fun c => P c.toNat) = true := by
 have h1 : ∀ l : Bs, l.dropWhile (fun c => P c.toNat) = [] ↔ ∀ c ∈ l, P c.toNat = true := by
  intro l
  induction l with
  | nil => simp
  | cons a l ih =>
   rw [List.dropWhile_cons]
   by_cases ha : P a.toNat = true
   ·rw [if_pos ha, ih]
    simp [ha]
   ·rw [if_neg ha]
    simp [ha]
 unfold trL
 rw [h1, List.all_eq_true]
 constructor
 ·intro h c hc
  by_cases hp : P c.toNat = true
  ·exact hp
  ·exfalso
   have h2 : ∀ l : Bs, (∀ x ∈ l.dropWhile (fun c => P c.toNat), P x.toNat = true) → ∀ x ∈ l, P x.toNat = true := by
    intro l
    induction l with
    | nil => intro _ x hx; cases hx
    | cons a l ih =>
     intro hl x hx
     rw [List.dropWhile_cons] at hl
     by_cases ha : P a.toNat = true
     ·rw [if_pos ha] at hl
      rcases List.mem_cons.1 hx with rfl | hx
      ·exact ha
      ·exact ih hl x hx
     ·rw [if_neg ha] at hl
      exact absurd (hl a (.head _)) ha
   have h3 := h2 s.reverse (fun x hx => h x (by unfold trR; rw [List.mem_reverse]; exact hx)) c (List.mem_reverse.2 hc)
   exact hp h3
 ·intro h c hc
  unfold trR at hc
  rw [List.mem_reverse] at hc
  exact h c (List.mem_reverse.1 ((List.dropWhile_suffix _).subset hc))
def cutB : Bs := [97, 98, 99, 100, 101, 102, 103, 104, 105, 106, 107, 108, 109, 110, 111, 112, 113, 114, 115, 116, 117, 118, 119, 120, 121, 122, 48, 49, 50, 51, 52, 53, 54, 55, 56, 57]
def plainC (c : UInt8) : Bool := decide (97 ≤ c.toNat) && decide (c.toNat ≤ 122) || decide (48 ≤ c.toNat) && decide (c.toNat ≤ 57)
theorem cut_plain (c : UInt8) : setP cutB c.toNat = plainC c := by
 have h : ∀ n, n < 256 → setP cutB n = (decide (97 ≤ n) && decide (n ≤ 122) || decide (48 ≤ n) && decide (n ≤ 57)) := by decide
 exact h _ c.toNat_lt
def plainS (s : Bs) : Bool := s.all plainC
theorem trim_plain (s : Bs) : trL (setP cutB) (trR (setP cutB) s) = [] ↔ plainS s = true := by
 rw [tr_nil]
 unfold plainS
 have : (fun c : UInt8 => setP cutB c.toNat) = plainC := funext cut_plain
 rw [this]
theorem cut_low : ∀ c ∈ cutB, c.toNat < 128 := by decide
end Go.MV
namespace Go.Proofs.YtciimaabeabkdaaGreatDoor
open Go Go.MV
theorem ascii_spec (id : Nat) (P : Nat → Bool) (c : UInt8) (S : MS) (h : S[id]? = some (.cells (arr P))) : MCalls Tryz.prog 220 [.ref id 0, .int .u8 (c.toNat : Int)] S fun v σ' => v = .bool (P c.toNat) ∧ σ' = S := by
 refine zM Tryz.func220 V Tryz.ntmps220 (zA V) ?_
 refine zB <| qR V <| qA V V V <| qN <| zB <| qR V <| qM V V V <| qM V V V <| qO V <| zD0 V V V <| qO V <| op_indexAddr_arr V Tryz.underlying265 sz4 V V V c.toNat_lt <| qO V <| zP V V (zS h) ta4 (arr_get c.toNat_lt) <| qA V V V <| qN <| zI ?_
 exact zR (.inr V) Tryz.results220 V (.of_eq (V)) (.bool _) Vv
theorem trimR_spec (id : Nat) (P : Nat → Bool) (s : Bs) (hs : s.length ≤ 1000000) (S : MS) (h : S[id]? = some (.cells (arr P))) : MCalls Tryz.prog 182 [.str (bs s), .ref id 0] S fun v σ' => v = .str (bs (trR P s)) ∧ σ' = S := by
 refine zM Tryz.func182 V Tryz.ntmps182 (zA V) ?_
 refine zB <| qR V <| qA V V V <| qN <| zB <| zX ?_
 refine zS1 (α := Bs) [(1, _)] (fun x => [(0, .str (bs x))]) (fun x => []) (fun x => trR P x = trR P s ∧ x.length ≤ s.length) (fun x => x.length) (s) (.keep V (.nil)) (.keep V (.nil)) (⟨rfl, Nat.le_refl _⟩) (V) ?_
 rintro x ⟨he, hx⟩
 refine zB <| zB <| qR V <| qM V V V <| qO V <| zU3 V zV0 V <| qC V V V V V <| qN ?_
 refine zJ V (fun h7 => ?_) (fun h7 => ?_)
 ·
  have h0 : 0 < x.length := by simpa using h7
  obtain ⟨c, hc⟩ : ∃ c, x[x.length - 1]? = some c := ⟨_, zC (by omega)⟩
  refine zQ <| zX <| zB <| zB <| qR V <| qM V V V <| qM V V V <| qM V V V <| qO V <| zU3 V zV0 V <| qO V <| zT0 V V V (wsub (a := x.length) (b := 1) (c := x.length - 1) (by omega) (by omega)) ?_
  refine qO V <| zJ5 V zV0 V V V hc ?_
  refine qX V V V V co220 (ascii_spec id P c _ (zS h)) ?_
  refine qO V <| zC1 V V <| qN ?_
  refine zJ V (fun h15 => ?_) (fun h15 => ?_)
  ·
   have hp : P c.toNat = false := by simpa using h15
   have hE : trR P s = x := by rw [← he, trR_last hc hp]
   refine zM1 <| zB <| qR V <| qM V V V <| qA V V V <| qN <| zI ?_
   exact zR (.inr V) Tryz.results182 V (.of_eq (by rw [hE])) (.str _) Vv
  ·
   have hp : P c.toNat = true := by simpa using h15
   refine zQ <| qR V <| qM V V V <| qM V V V <| qO V <| zU3 V zV0 V <| qO V <| zT0 V V V (wsub (a := x.length) (b := 1) (c := x.length - 1) (by omega) (by omega)) ?_
   refine qO V <| zK5 V zV0 V .none (.some V V) (by omega) (by omega) ?_
   rw [List.drop_zero, Nat.sub_zero]
   refine qA V V V <| qN ?_
   refine ⟨x.take (x.length - 1), by simp only [List.length_take]; omega, ⟨by rw [trR_more hc hp]; exact he, by simp only [List.length_take]; omega⟩, rfl, (.keep V (.nil)), (.eq V (V) (.nil))⟩
 ·
  have h0 : x = [] := by simpa using h7
  subst h0
  have hE : trR P s = [] := by rw [← he]; rfl
  refine zM1 <| zB <| qR V <| qM V V V <| qA V V V <| qN <| zI ?_
  exact zR (.inr V) Tryz.results182 V (.of_eq (by rw [hE])) (.str _) Vv
theorem trimL_spec (id : Nat) (P : Nat → Bool) (s : Bs) (hs : s.length ≤ 1000000) (S : MS) (h : S[id]? = some (.cells (arr P))) : MCalls Tryz.prog 181 [.str (bs s), .ref id 0] S fun v σ' => v = .str (bs (trL P s)) ∧ σ' = S := by
 refine zM Tryz.func181 V Tryz.ntmps181 (zA V) ?_
 refine zB <| qR V <| qA V V V <| qN <| zB <| zX ?_
 refine zS1 (α := Bs) [(1, _)] (fun x => [(0, .str (bs x))]) (fun x => []) (fun x => trL P x = trL P s ∧ x.length ≤ s.length) (fun x => x.length) (s) (.keep V (.nil)) (.keep V (.nil)) (⟨rfl, Nat.le_refl _⟩) (V) ?_
 rintro x ⟨he, hx⟩
 refine zB <| zB <| qR V <| qM V V V <| qO V <| zU3 V zV0 V <| qC V V V V V <| qN ?_
 refine zJ V (fun h7 => ?_) (fun h7 => ?_)
 ·
  have h0 : 0 < x.length := by simpa using h7
  obtain ⟨c, y, hc⟩ : ∃ c y, x = c :: y := by cases x with
   | nil => simp at h0
   | cons c y => exact ⟨c, y, rfl⟩
  have hs0 : x[0]? = some c := by rw [hc]; rfl
  refine zQ <| zX <| zB <| zB <| qR V <| qM V V V <| qM V V V <| qO V <| zJ5 V zV0 V V V hs0 ?_
  refine qX V V V V co220 (ascii_spec id P c _ (zS h)) ?_
  refine qO V <| zC1 V V <| qN ?_
  refine zJ V (fun h12 => ?_) (fun h12 => ?_)
  ·
   have hp : P c.toNat = false := by simpa using h12
   have hE : trL P s = x := by rw [← he, hc, trL, List.dropWhile_cons_of_neg (p := fun c : UInt8 => P c.toNat) (by simp [hp])]
   refine zM1 <| zB <| qR V <| qM V V V <| qA V V V <| qN <| zI ?_
   exact zR (.inr V) Tryz.results181 V (.of_eq (by rw [hE])) (.str _) Vv
  ·
   have hp : P c.toNat = true := by simpa using h12
   refine zQ <| qR V <| qM V V V <| qO V <| zK5 V zV0 V (.some V V) .none (by show 1 ≤ x.length; omega) (by omega) ?_
   rw [show (x.drop 1).take (x.length - 1) = x.tail by rw [List.take_of_length_le (by simp), List.drop_one]]
   refine qA V V V <| qN ?_
   refine ⟨x.tail, by simp only [List.length_tail]; omega, ⟨by rw [← he, hc, trL, trL, List.tail_cons, List.dropWhile_cons_of_pos (p := fun c : UInt8 => P c.toNat) hp], by simp only [List.length_tail]; omega⟩, rfl, (.keep V (.nil)), (.eq V (V) (.nil))⟩
 ·
  have h0 : x = [] := by simpa using h7
  subst h0
  have hE : trL P s = [] := by rw [← he]; rfl
  refine zM1 <| zB <| qR V <| qM V V V <| qA V V V <| qN <| zI ?_
  exact zR (.inr V) Tryz.results181 V (.of_eq (by rw [hE])) (.str _) Vv
theorem mkset_spec (l : Bs) (hl : l.length ≤ 1000000) (hlow : ∀ c ∈ l, c.toNat < 128) (S : MS) : MCalls Tryz.prog 180 [.str (bs l)] S fun v σ' => v = .tup [.agg (arr (setP l)), .bool true] ∧ σ' = S := by
 refine zM Tryz.func180 V Tryz.ntmps180 (zA V) ?_
 refine zB <| qR V <| qO V <| zN0 V zm265 V V <| qA V V V <| qN <| zB <| zB <| qR V <| qA V V V <| qN <| zX ?_
 refine zS1 (α := Nat) [(0, _), (2, _)] (fun i => [(4, .int .i64 (i : Int))]) (fun i => [.cells (arr (setP (l.take i)))]) (fun i => i ≤ l.length) (fun i => l.length - i) (0) (.keep V (.keep V (.nil))) (.keep V (.nil)) (by omega) (by rw [List.take_zero, setP_nil]; rfl) ?_
 rintro i hi
 refine zB <| zB <| qR V <| qM V V V <| qM V V V <| qO V <| zU3 V zV0 V <| qC V V V V V <| qN ?_
 refine zJ V (fun h9 => ?_) (fun h9 => ?_)
 ·
  have hlt : i < l.length := by simpa using h9
  obtain ⟨c, hs⟩ : ∃ q_, l[i]? = some q_ := ⟨_, zC hlt⟩
  have hc128 := hlow c (zW hs)
  refine zQ <| zB <| zX <| zB <| qR V <| qM V V V <| qM V V V <| qO V <| zJ5 V zV0 V V V hs <| qA V V V <| qN <| zB <| zB <| qR V <| qM V V V <| qC V V V V V <| qN <| zL V (decide_eq_false (by omega)) ?_
  refine zQ <| qR V <| qM V V V <| qO V <| op_indexAddr_arr V Tryz.underlying265 sz4 V V V c.toNat_lt <| qO V <| zQ5 V V V (by simp : (S ++ [MObj.cells (arr (setP (l.take i)))])[S.length]? = some (.cells (arr (setP (l.take i))))) sz4 V V (by rw [zE6]; have := c.toNat_lt; show 0 + c.toNat * 1 + 1 ≤ 256; omega) ?_
  refine zU6 (S ++ [MObj.cells (arr (setP (l.take (i + 1))))]) (by rw [show (MV.bool true).cells = [MV.bool true] from rfl, arr_set c.toNat_lt, ← setP_succ hs]; simp) ?_
  refine qN <| qR V <| qM V V V <| qO V <| zT0 V V V V <| qA V V V <| qN ?_
  refine ⟨i + 1, by omega, by omega, rfl, (.keep V (.keep V (.nil))), (.eq V (zQ1 hlt (by simp only [maxLen]; omega)) (.nil))⟩
 ·
  have hge : i = l.length := by simp at h9; omega
  rw [hge, List.take_length]
  refine zM1 <| zB <| qR V <| qO V <| zP V V (by simp : (S ++ [MObj.cells (arr (setP l))])[S.length]? = some (.cells (arr (setP l)))) ta265 (arr_load _) ?_
  refine qO V <| zQ5 V V V (by simp : (S ++ [MObj.cells (arr (setP l))])[S.length]? = some (.cells (arr (setP l)))) sz265 (by exact zE6 _) V (by show 0 + (arr (setP l)).length ≤ _; omega) ?_
  refine zU6 (S ++ [MObj.cells (arr (setP l))]) (by rw [show (MV.agg (arr (setP l))).cells = arr (setP l) from rfl, arr_store]; simp) ?_
  refine qA V V V <| qN <| zI ?_
  exact zN1 (.inr V) Tryz.results180 V V ta265 (arr_load _) (.refl _) (.agg _ (arr_cl _ _)) V (.refl _) (.bool _) Vv
theorem strEq_f {a b : Bs} (h : a ≠ b) : strCmp .eql a b = some false := by simp [strCmp, h]
theorem strEq_d {a b : Bs} {r : Bool} (h : a = b ↔ r = true) : strCmp .eql a b = some r := by
 simp only [strCmp]
 congr 1
 rw [zH, beq_iff_eq]
 exact h
theorem trim_spec (s : Bs) (hne : s ≠ []) (hs : s.length ≤ 1000000) (S : MS) : MCalls Tryz.prog 139 [.str (bs s), .str (bs cutB)] S fun v σ' => v = .str (bs (trL (setP cutB) (trR (setP cutB) s))) ∧ σ' = S := by
 refine zM Tryz.func139 V Tryz.ntmps139 (zA V) ?_
 refine zB <| qR V <| qA V V V <| qN <| zB <| zB <| qR V <| qM V V V <| qO V <| zS2 V V V (strEq_f hne) <| qM V V V <| qM V V V <| qO V <| zS2 V V V (V) <| qP V V V V <| qN <| zL V (V) <| zQ <| zB <| zB <| qR V <| qM V V V <| qO V <| zU3 V zV0 V ?_
 refine qC V V V V V <| qM V V V <| qS V <| qS V <| qS V <| qP V V V V <| qN <| zL V (V) <| zQ <| zB <| zB <| qR V <| qM V V V ?_
 refine qX V V V V co180 (mkset_spec cutB (by decide) cut_low _) ?_
 refine qM V V V <| qO V <| zJ0 V V V <| qO V <| zJ0 V V V <| qO V <| zN0 V zm265 V V ?_
 refine zU6 (S ++ [MObj.cells (arr fun _ => false)]) V ?_
 refine qO V <| zQ5 V V V (by simp : (S ++ [MObj.cells (arr fun _ => false)])[S.length]? = some (.cells (arr fun _ => false))) sz265 (by exact zE6 _) V (by show 0 + (arr (setP cutB)).length ≤ _; rw [zE6, zE6]; exact Nat.le_refl _) ?_
 refine zU6 (S ++ [MObj.cells (arr (setP cutB))]) (by rw [show (MV.agg (arr (setP cutB))).cells = arr (setP cutB) from rfl, arr_store]; simp) ?_
 refine qA V V V <| qN <| zB <| qR V <| qM V V V <| qN <| zT V (V) <| zB <| qR V <| qM V V V ?_
 refine qX V V V V co182 (trimR_spec S.length (setP cutB) s hs (S ++ [MObj.cells (arr (setP cutB))]) (by simp : (S ++ [MObj.cells (arr (setP cutB))])[S.length]? = some (.cells (arr (setP cutB))))) ?_
 refine qX V V V V co181 (trimL_spec S.length (setP cutB) (trR (setP cutB) s) (by have := trR_le (setP cutB) s; omega) (S ++ [MObj.cells (arr (setP cutB))]) (by simp : (S ++ [MObj.cells (arr (setP cutB))])[S.length]? = some (.cells (arr (setP cutB))))) ?_
 refine qA V V V <| qN <| zI ?_
 exact zR (.inr V) Tryz.results139 V (.of_eq (V)) (.str _) Vv
theorem isPlain_spec (s : Bs) (hne : s ≠ []) (hs : s.length ≤ 1000000) (S : MS) : MCalls Tryz.prog 75 [.str (bs s)] S fun v σ' => v = .bool (plainS s) ∧ σ' = S := by
 refine zM Tryz.func75 V Tryz.ntmps75 (zA V) ?_
 refine zB <| qR V <| qA V V V <| qN <| zB <| qR V <| qM V V V ?_
 refine qX V V V V co139 (trim_spec s hne hs _) ?_
 refine qO V <| zS2 V V V (strEq_d (trim_plain s)) <| qA V V V <| qN <| zI ?_
 exact zR (.inr V) Tryz.results75 V (.of_eq (V)) (.bool _) Vv
end Go.Proofs.YtciimaabeabkdaaGreatDoor
end
namespace Go.Proofs.YtciimaabeabkdaaGreatDoor
open Go Go.MV
mutual
def depth : Sch → Nat
 | .mk _ ins => 1 + depthL ins
def depthL : List Sch → Nat
 | [] => 0
 | s :: l => max (depth s) (depthL l)
end
theorem depthL_append : ∀ a b : List Sch, depthL (a ++ b) = max (depthL a) (depthL b)
 | [], b => by simp [depthL]
 | s :: a, b => by simp only [List.cons_append, depthL, depthL_append a b]; omega
theorem depthL_succ {l : List Sch} {i : Nat} {s : Sch} (h : l[i]? = some s) : depthL (l.take (i + 1)) = max (depthL (l.take i)) (depth s) := by
 rw [List.take_add_one, h, Option.toList_some, depthL_append]
 simp [depthL]
theorem depthL_le (l : List Sch) (i : Nat) : depthL (l.take i) ≤ depthL l := by
 have := depthL_append (l.take i) (l.drop i)
 rw [List.take_append_drop] at this
 omega
noncomputable instance : DecidableEq Sch := fun a b => Classical.propDecidable (a = b)
theorem bothSch_spec (a b : List Sch) (kf : FuncId) (first caps : List MV) (S : MS) (hco : CallOk Tryz.prog kf) (hp : ∀ x y : Sch, x ∈ a → y ∈ b → ∀ X : MS, MCalls Tryz.prog kf (first ++ [encS x, encS y] ++ caps) (S ++ X) fun v σ' => v = .bool (decide (x = y)) ∧ σ' = S ++ X) :
  MCalls Tryz.prog 186 [.lst none 2 (encSs a), .lst none 2 (encSs b), .fn (.func kf) first caps] S fun v σ' => v = .bool (decide (a = b)) ∧ σ' = S := by
 refine zM Tryz.func186 V Tryz.ntmps186 (zA V) ?_
 refine zL3 (t := 0) V fun hlen => ?_
 refine zB <| qR V <| qA V V V <| qN <| zB <| zB <| qR V <| qM V V V <| qE V V zQ0 V <| qM V V V <| qE V V zQ0 V <| qC V V V V V <| qN ?_
 refine zJ V (fun h12 => ?_) (fun h12 => ?_)
 ·
  refine zB <| qR V <| qA V V V <| qN <| zI ?_
  exact zR (.inr V) Tryz.results186 V (.refl _) (.bool _) ⟨by rw [zI3, zI3] at h12; simp at h12; congr 1; symm; rw [decide_eq_false_iff_not]; exact fun e => h12 (by rw [e]), rfl⟩
 ·
  have hab : a.length = b.length := by rw [zI3, zI3] at h12; simp at h12; omega
  refine zQ <| zB <| zB <| qR V <| qM V V V <| qE V V zQ0 V <| qM V V V <| qN <| zX ?_
  refine mwp_loop0 (α := Nat) (fun i => [(0, .lst none 2 (encSs a)), (1, .lst none 2 (encSs b)), (2, .fn (.func kf) first caps), (14, .int .i64 ((encSs a).length : Int)), (15, .int .i64 (i : Int))]) (fun i => []) (fun i => i ≤ a.length ∧ a.take i = b.take i) (fun i => a.length - i) (0) ⟨by omega, rfl⟩ V (.keep V (.keep V (.keep V (.keep V (.keep V .nil))))) ?_
  rintro i ⟨hi, heq⟩
  refine zB <| qR V <| qC V V V V V <| qN <| zB ?_
  refine zJ V (fun h16 => ?_) (fun h16 => ?_)
  ·
   have hlt : i < a.length := by rw [zI3] at h16; simpa using h16
   obtain ⟨⟨k, ins⟩, hs⟩ : ∃ s, a[i]? = some s := ⟨_, zC hlt⟩
   obtain ⟨⟨k2, ins2⟩, hs2⟩ : ∃ s, b[i]? = some s := ⟨_, zC (by omega)⟩
   refine zQ <| zB <| zX <| zB <| qR V <| qM V V V <| qA V V V <| qN <| zB ?_
   refine zX0 [] [_] mo (by decide) V V V V ?_
   refine dO V V V (zY V V Vv) <| dO V V V (zY V V Vv) <| dO V V V (zY V V Vv) <| dO V V V (zK V zQ0 sz53 (by decide) V V V (encSs_get hs) Vv) ?_
   refine dO V V V (zO V V ta53 V Vv) <| dO V V V (zY V V Vv) <| dO V V V (zY V V Vv) <| dO V V V (zK V zQ0 sz53 (by decide) V V V (encSs_get hs2) Vv) ?_
   refine dO V V V (zO V V ta53 V Vv) <| zU V V (.cons (zD1 V V V hco (hp _ _ (zW hs) (zW hs2) _)) .nil) <| dO V V V (zC1 V V Vv) <| zP0 ?_
   refine zJ V (fun h28 => ?_) (fun h28 => ?_)
   ·
    refine zB <| qR V <| qA V V V <| qN <| zI ?_
    exact zR (.inr V) Tryz.results186 V (.refl _) (.bool _) ⟨by congr 1; symm; rw [decide_eq_false_iff_not]; intro e; rw [e, hs2] at hs; injection hs with hs; simp [hs] at h28, rfl⟩
   ·
    refine zQ <| qR V <| qO V <| zT0 V V V V <| qM V V V <| qN ?_
    refine ⟨i + 1, by omega, ⟨by omega, ?_⟩, rfl, .keep V (.keep V (.keep V (.keep V (.eq V (zQ1 hlt (by rw [zI3] at hlen; exact hlen)) .nil))))⟩
    rw [List.take_add_one, List.take_add_one, hs, hs2, heq]
    simp at h28
    rw [h28.1, h28.2]
  ·
   have hge : i = a.length := by rw [zI3] at h16; simp at h16; omega
   refine zM1 <| zB <| qR V <| qA V V V <| qN <| zI ?_
   exact zR (.inr V) Tryz.results186 V (.refl _) (.bool _) ⟨by congr 1; symm; rw [decide_eq_true_iff]; rw [hge, List.take_length, hab, List.take_length] at heq; exact heq, rfl⟩
theorem sameSch_spec (n : Nat) : ∀ (a b : Sch), depth a ≤ n → ∀ S : MS, MCalls Tryz.prog 141 [encS a, encS b] S fun v σ' => v = .bool (decide (a = b)) ∧ σ' = S := by
 induction n with
 | zero => rintro ⟨k, ins⟩ b h; simp [depth] at h
 | succ n ih =>
 rintro ⟨k, ins⟩ ⟨k2, ins2⟩ hd S
 have hmem : ∀ x ∈ ins, depth x ≤ n := by
  intro x hx
  obtain ⟨i, hi⟩ := List.getElem?_of_mem hx
  have h1 := depthL_succ hi
  have h2 := depthL_le ins (i + 1)
  simp only [depth] at hd
  omega
 by_cases hk : k = k2
 ·have hkb : (k == k2) = true := by simpa using hk
  refine zM Tryz.func141 V Tryz.ntmps141 (zA V) ?_
  refine zB <| qR V <| qB V V V V V <| qB V V V V V <| qA V V V <| qN <| zB <| qR V <| qF V V V zJ2 <| qL V V V V ta3 V <| qF V V V zJ2 <| qL V V V V ta3 V <| qC V V V V V ?_
  rw [hkb]
  refine qM V V V <| qF V V V zS3 <| qL V V V V ta51 V <| qF V V V zS3 <| qL V V V V ta51 V ?_
  refine qX V V V V co186 (bothSch_spec ins ins2 _ [] [] _ co141 fun x y hx _ X => ih x y (hmem x hx) _) ?_
  refine qP V V V V <| qA V V V <| qN <| zI ?_
  exact zR (.inr V) Tryz.results141 V (.refl _) (.bool _) ⟨by subst hk; simp, rfl⟩
 ·have hkb : (k == k2) = false := by simpa using hk
  refine zM Tryz.func141 V Tryz.ntmps141 (zA V) ?_
  refine zB <| qR V <| qB V V V V V <| qB V V V V V <| qA V V V <| qN <| zB <| qR V <| qF V V V zJ2 <| qL V V V V ta3 V <| qF V V V zJ2 <| qL V V V V ta3 V <| qC V V V V V ?_
  rw [hkb]
  refine qM V V V <| qT V V V V <| qS V <| qP V V V V <| qA V V V <| qN <| zI ?_
  exact zR (.inr V) Tryz.results141 V (.refl _) (.bool _) ⟨by simp [hk], rfl⟩
def causeS (s : Sch) : Sch := .mk 8 [.mk 5 [.mk 4 [.mk 7 []], s]]
theorem _root_.zA3 : type_of% @Tryz.underlying53 := @Tryz.underlying53
theorem causeSch_spec (s : Sch) (S : MS) : MCalls Tryz.prog 142 [encS s] S fun v σ' => v = encS (causeS s) ∧ σ' = S := by
 obtain ⟨k, ins⟩ := s
 refine zM Tryz.func142 V Tryz.ntmps142 (zA V) ?_
 refine zB <| qR V <| qB V V V V V <| qO V <| zN0 V zm53 V V <| qN <| zB <| qR V <| qO V <| zA1 V zA3 zm53 (.cons zJ2 sz3 V V (zA V) .nil) (by kernel_rfl) ?_
 refine qO V <| zJ1 V zQ0 el53 V V (by decide) (by decide) V V ?_
 refine qO V <| zA1 V zA3 zm53 (.cons zJ2 sz3 V V (zA V) (.cons zS3 sz51 V V (zA V) .nil)) (by kernel_rfl) ?_
 refine qO V <| zN0 V zm53 V V <| qO V <| zC0 V V V V sz53 V V (zA V) V <| qN <| zB <| qR V <| qL V V V V ta53 V <| qL V V V V ta53 V <| qO V <| zJ1 V zQ0 el53 V V (by decide) (by decide) V V ?_
 refine qO V <| zA1 V zA3 zm53 (.cons zJ2 sz3 V V (zA V) (.cons zS3 sz51 V V (zA V) .nil)) (by kernel_rfl) ?_
 refine qO V <| zJ1 V zQ0 el53 V V (by decide) (by decide) V V ?_
 refine qO V <| zA1 V zA3 zm53 (.cons zJ2 sz3 V V (zA V) (.cons zS3 sz51 V V (zA V) .nil)) (by kernel_rfl) ?_
 refine qO V <| zC0 V V V V sz53 V V (zA V) V <| qN <| zI ?_
 exact zK2 (.inr V) Tryz.results142 V V ta53 V (.agg (.cons (.refl _) (.cons (.lstE (.agg (.cons (.refl _) (.cons (.lstE (.agg (.cons (.refl _) (.cons (.lstE (.agg (.cons (.refl _) (.cons (.nil 2) .nil)) .nil) V) .nil)) (.same .nil)) V) .nil)) .nil) V) .nil))) (cl_encS _ (causeS (.mk k ins))) Vv
theorem rCauseSch_spec (s : Sch) (S : MS) : MCalls Tryz.prog 62 [encS s] S fun v σ' => v = encS (causeS s) ∧ σ' = S := by
 obtain ⟨k, ins⟩ := s
 refine zM Tryz.func62 V Tryz.ntmps62 (zA V) ?_
 refine zB <| qR V <| qB V V V V V <| qO V <| zN0 V zm53 V V <| qN <| zB <| qR V <| qO V <| zA1 V zA3 zm53 (.cons zJ2 sz3 V V (zA V) .nil) (by kernel_rfl) ?_
 refine qO V <| zJ1 V zQ0 el53 V V (by decide) (by decide) V V ?_
 refine qO V <| zA1 V zA3 zm53 (.cons zJ2 sz3 V V (zA V) (.cons zS3 sz51 V V (zA V) .nil)) (by kernel_rfl) ?_
 refine qO V <| zN0 V zm53 V V <| qO V <| zC0 V V V V sz53 V V (zA V) V <| qN <| zB <| qR V <| qL V V V V ta53 V <| qL V V V V ta53 V <| qO V <| zJ1 V zQ0 el53 V V (by decide) (by decide) V V ?_
 refine qO V <| zA1 V zA3 zm53 (.cons zJ2 sz3 V V (zA V) (.cons zS3 sz51 V V (zA V) .nil)) (by kernel_rfl) ?_
 refine qO V <| zJ1 V zQ0 el53 V V (by decide) (by decide) V V ?_
 refine qO V <| zA1 V zA3 zm53 (.cons zJ2 sz3 V V (zA V) (.cons zS3 sz51 V V (zA V) .nil)) (by kernel_rfl) ?_
 refine qO V <| zC0 V V V V sz53 V V (zA V) V <| qN <| zI ?_
 exact zK2 (.inr V) Tryz.results62 V V ta53 V (.agg (.cons (.refl _) (.cons (.lstE (.agg (.cons (.refl _) (.cons (.lstE (.agg (.cons (.refl _) (.cons (.lstE (.agg (.cons (.refl _) (.cons (.nil 2) .nil)) .nil) V) .nil)) (.same .nil)) V) .nil)) .nil) V) .nil))) (cl_encS _ (causeS (.mk k ins))) Vv
noncomputable def levelF (s : Sch) : Int :=
 if isF 16 s = false then 0 else match s with
  | .mk k ins => if k = 6 then 2 else if k = 8 then (match ins with
   | [.mk 5 [_, y]] => if Sch.mk k ins = causeS y then 3 else 1
   | _ => 1) else 1
theorem is_cause {k : Int} {ins : List Sch} (h : isF 16 (.mk k ins) = true) (hk : k = 8) : ∃ k1 l1, ins = [.mk k1 l1] ∧ (k1 = 5 → ∃ a b, l1 = [a, b]) := by
 subst hk
 simp only [isF, Bool.and_eq_true] at h
 have h1 : ins.length = 1 := by have := h.1; simp [partsF] at this; omega
 match ins, h1 with
 | [.mk k1 l1], _ =>
  refine ⟨k1, l1, rfl, fun h5 => ?_⟩
  subst h5
  have h2 := h.2
  simp only [List.all_cons, isF, Bool.and_eq_true] at h2
  have h3 : l1.length = 2 := by have := h2.1.1; simp [partsF] at this; omega
  match l1, h3 with
  | [a, b], _ => exact ⟨a, b, rfl⟩
theorem _root_.zV6 : type_of% @Tryz.results79 := @Tryz.results79
theorem levelSch_spec (s : Sch) (S : MS) : MCalls Tryz.prog 79 [encS s] S fun v σ' => v = .int .i64 (levelF s) ∧ σ' = S := by
 obtain ⟨k, ins⟩ := s
 cases his : isF 16 (.mk k ins) with
 | false =>
  refine zM Tryz.func79 V Tryz.ntmps79 (zA V) ?_
  refine zB <| qR V <| qB V V V V V <| qA V V V <| qN <| zB <| zX <| zB <| qR V <| qL V V V V ta53 V ?_
  refine qX V V V V co140 (Is_spec (.mk k ins) _) ?_
  rw [his]
  refine qO V <| zC1 V V <| qA V V V <| qN <| zT V (V) <| zB <| qR V <| qA V V V <| qN <| zI ?_
  exact zR (.inr V) zV6 V (.refl _) (.int _ _) ⟨by simp [levelF, his], rfl⟩
 | true =>
 by_cases h6 : k = 6
 ·subst h6
  refine zM Tryz.func79 V Tryz.ntmps79 (zA V) ?_
  refine zB <| qR V <| qB V V V V V <| qA V V V <| qN <| zB <| zX <| zB <| qR V <| qL V V V V ta53 V ?_
  refine qX V V V V co140 (Is_spec (.mk 6 ins) _) ?_
  rw [his]
  refine qO V <| zC1 V V <| qA V V V <| qN <| zL V (V) <| zB <| qR V <| qF V V V zJ2 <| qL V V V V ta3 V <| qC V V V V V <| qA V V V <| qN <| zT V (V) <| zB <| qR V <| qA V V V <| qN <| zI ?_
  exact zR (.inr V) zV6 V (.refl _) (.int _ _) ⟨by simp [levelF, his], rfl⟩
 have h6b : (k == 6) = false := by simpa using h6
 by_cases h8 : k = 8
 ·obtain ⟨k1, l1, rfl, h5⟩ := is_cause his h8
  subst h8
  by_cases hk1 : k1 = 5
  ·obtain ⟨⟨ka, la⟩, ⟨kb, lb⟩, rfl⟩ := h5 hk1
   subst hk1
   refine zM Tryz.func79 V Tryz.ntmps79 (zA V) ?_
   refine zB <| qR V <| qB V V V V V <| qA V V V <| qN <| zB <| zX <| zB <| qR V <| qL V V V V ta53 V ?_
   refine qX V V V V co140 (Is_spec (.mk 8 [.mk 5 [.mk ka la, .mk kb lb]]) _) ?_
   rw [his]
   refine qO V <| zC1 V V <| qA V V V <| qN <| zL V (V) <| zB <| qR V <| qF V V V zJ2 <| qL V V V V ta3 V <| qC V V V V V <| qA V V V <| qN <| zL V (V) <| zB ?_
   refine zX0 [] [_] mo (by decide) V V V V ?_
   refine dO V V V (zE V V zJ2 Vv) <| dO V V V (zO0 V V V ta3 V Vv) <| dO V V V (zW2 V V V V Vv) <| dO V V V (zY V V Vv) <| dO V V V (zE V V zS3 Vv) <| dO V V V (zO0 V V V ta51 V Vv) <| dO V V V (zK V zQ0 sz53 (by decide) V V V V Vv) ?_
   refine dO V V V (zG1 V V zJ2 Vv) <| dO V V V (zO V V ta3 V Vv) <| dO V V V (zW2 V V V V Vv) <| dO V V V (zO1 V V V Vv) <| dO V V V (zY V V Vv) <| dO V V V (zO0 V V V ta53 V Vv) <| dO V V V (zE V V zS3 Vv) <| dO V V V (zO0 V V V ta51 V Vv) <| dO V V V (zK V zQ0 sz53 (by decide) V V V V Vv) ?_
   refine dO V V V (zG1 V V zS3 Vv) <| dO V V V (zO V V ta51 V Vv) <| dO V V V (zK V zQ0 sz53 (by decide) V V V V Vv) ?_
   refine dO V V V (zO V V ta53 V Vv) <| zU V V (.cons (zD1 V V V co142 (causeSch_spec (.mk kb lb) _)) .nil) <| zU V V (.cons (zD1 V V V co141 (sameSch_spec _ (.mk 8 [.mk 5 [.mk ka la, .mk kb lb]]) (causeS (.mk kb lb)) (Nat.le_refl _) _)) .nil) <| dO V V V (zO1 V V V Vv) <| dO V V V (zF1 V V Vv) <| zP0 ?_
   refine zJ V (fun h11 => ?_) (fun h11 => ?_)
   ·
    refine zB <| qR V <| qA V V V <| qN <| zI ?_
    exact zR (.inr V) zV6 V (.refl _) (.int _ _) ⟨by simp only [decide_eq_true_eq] at h11; simp [levelF, his, ← h11], rfl⟩
   ·
    refine zQ <| zB <| qR V <| qA V V V <| qN <| zI ?_
    exact zR (.inr V) zV6 V (.refl _) (.int _ _) ⟨by simp only [decide_eq_false_iff_not] at h11; simp [levelF, his, h11], rfl⟩
  ·have hk1b : (k1 == 5) = false := by simpa using hk1
   refine zM Tryz.func79 V Tryz.ntmps79 (zA V) ?_
   refine zB <| qR V <| qB V V V V V <| qA V V V <| qN <| zB <| zX <| zB <| qR V <| qL V V V V ta53 V ?_
   refine qX V V V V co140 (Is_spec (.mk 8 [.mk k1 l1]) _) ?_
   rw [his]
   refine qO V <| zC1 V V <| qA V V V <| qN <| zL V (V) <| zB <| qR V <| qF V V V zJ2 <| qL V V V V ta3 V <| qC V V V V V <| qA V V V <| qN <| zL V (V) <| zB ?_
   refine zX0 [] [_] mo (by decide) V V V V ?_
   refine dO V V V (zE V V zJ2 Vv) <| dO V V V (zO0 V V V ta3 V Vv) <| dO V V V (zW2 V V V V Vv) <| dO V V V (zY V V Vv) <| dO V V V (zE V V zS3 Vv) <| dO V V V (zO0 V V V ta51 V Vv) <| dO V V V (zK V zQ0 sz53 (by decide) V V V V Vv) ?_
   refine dO V V V (zG1 V V zJ2 Vv) <| dO V V V (zO V V ta3 V Vv) <| dO V V V (zW2 V V V V Vv) ?_
   rw [hk1b]
   refine dO V V V (zO1 V V V Vv) <| dO V V V (zY V V Vv) <| dS V V <| dS V V <| dS V V <| dS V V <| dS V V <| dS V V <| dS V V <| dS V V <| dS V V <| dS V V <| dO V V V (zO1 V V V Vv) <| dO V V V (zF1 V V Vv) <| zP0 <| zL V (V) <| zQ <| zB <| qR V <| qA V V V <| qN <| zI ?_
   exact zR (.inr V) zV6 V (.refl _) (.int _ _) ⟨by simp only [levelF, his]; simp; split <;> simp_all, rfl⟩
 ·have h8b : (k == 8) = false := by simpa using h8
  refine zM Tryz.func79 V Tryz.ntmps79 (zA V) ?_
  refine zB <| qR V <| qB V V V V V <| qA V V V <| qN <| zB <| zX <| zB <| qR V <| qL V V V V ta53 V ?_
  refine qX V V V V co140 (Is_spec (.mk k ins) _) ?_
  rw [his]
  refine qO V <| zC1 V V <| qA V V V <| qN <| zL V (V) <| zB <| qR V <| qF V V V zJ2 <| qL V V V V ta3 V <| qC V V V V V ?_
  rw [h6b]
  refine qA V V V <| qN <| zL V (V) <| zB ?_
  refine zX0 [] [_] mo (by decide) V V V V ?_
  refine dO V V V (zE V V zJ2 Vv) <| dO V V V (zO0 V V V ta3 V Vv) <| dO V V V (zW2 V V V V Vv) ?_
  rw [h8b]
  refine dO V V V (zY V V Vv) <| dS V V <| dS V V <| dS V V <| dS V V <| dS V V <| dS V V <| dO V V V (zO1 V V V Vv) <| dO V V V (zY V V Vv) <| dS V V <| dS V V <| dS V V <| dS V V <| dS V V <| dS V V <| dS V V <| dS V V <| dS V V <| dS V V <| dO V V V (zO1 V V V Vv) <| dO V V V (zF1 V V Vv) <| zP0 <| zL V (V) <| zQ <| zB <| qR V <| qA V V V <| qN <| zI ?_
  exact zR (.inr V) zV6 V (.refl _) (.int _ _) ⟨by simp [levelF, his, h6, h8], rfl⟩
end Go.Proofs.YtciimaabeabkdaaGreatDoor
namespace Go.MV
open Go Go.RowKit
section
def OkD (ops : Array Oper) (i : Nat) (o : Oper) (D : Nat → Bool) : Prop := D i = false ∧ (∀ e, bindsOn o e = true → D e = true) ∧ ∀ (j : Nat) (p : Oper), ops[j]? = some p → D j = true → ∀ e, bindsOn p e = true → D e = true
def updD (D : Nat → Bool) (i : Nat) : Nat → Bool := fun j => if j = i then true else D j
def dOpsS (P : Program) (rd : Option Nat) (ops : Array Oper) (st : (Nat → Bool) → MS) (Q : Env → Prop) : List Oper → Nat → Env → Prop
 | [], _, env => Q env
 | o :: rest, i, env =>
  match guardOk ops env o with
  | some true => ∃ x, (∀ D, OkD ops i o D → OpWp P rd o env (st D) fun x' σ' => x' = x ∧ σ' = st (updD D i)) ∧ dOpsS P rd ops st Q rest (i + 1) (putd o.dst x env)
  | some false => (∀ D, st (updD D i) = st D) ∧ dOpsS P rd ops st Q rest (i + 1) (putd o.dst (.tup []) env)
  | none => False
section
variable {P : Program} {rd : Option Nat} {N n : Nat} {ops : Array Oper} {env : Env} {σ : MS} {st : (Nat → Bool) → MS}
theorem dOpsS_op {Q : Env → Prop} {o : Oper} {rest : List Oper} {i : Nat} {x : MV} (hg : guardOk ops env o = some true) (h : ∀ D, OkD ops i o D → OpWp P rd o env (st D) fun x' σ' => x' = x ∧ σ' = st (updD D i)) (hr : dOpsS P rd ops st Q rest (i + 1) (putd o.dst x env)) : dOpsS P rd ops st Q (o :: rest) i env := by
 simp only [dOpsS, hg]; exact ⟨x, h, hr⟩
theorem _root_.zE3 : type_of% @dOpsS_op := @dOpsS_op
theorem dOpsS_nil {Q : Env → Prop} {i : Nat} (h : Q env) : dOpsS P rd ops st Q [] i env := h
structure RowS (P : Program) (rd : Option Nat) (ops : Array Oper) (st : (Nat → Bool) → MS) (E : Nat → Env) (X : Nat → MV) (B : Nat → Bool) (from_ n : Nat) : Prop where
 step : ∀ (i : Nat) (o : Oper), from_ ≤ i → ops[i]? = some o → guardOk ops (E i) o = some (B i) ∧
  (B i = true → ∀ D, OkD ops i o D → OpWp P rd o (E i) (st D) fun x' σ' => x' = X i ∧ σ' = st (updD D i)) ∧
  (B i = false → (∀ D, st (updD D i) = st D) ∧ X i = .tup []) ∧ E (i + 1) = putd o.dst (X i) (E i)
theorem dOpsS_row {Q : Env → Prop} : ∀ (l : List Oper) (k : Nat) (env : Env), (∀ j, l[j]? = ops[k + j]?) → dOpsS P rd ops st Q l k env → ∃ E X B, RowS P rd ops st E X B k ops.size ∧ E k = env ∧ Q (E (k + l.length))
 | [], k, env, hl, h => ⟨fun _ => env, fun _ => .tup [], fun _ => false, ⟨fun i o hi ho => by
   have := hl (i - k)
   rw [show k + (i - k) = i by omega, ho] at this
   cases this⟩, rfl, h⟩
 | o :: l, k, env, hl, h => by
  have ho : ops[k]? = some o := by simpa using (hl 0).symm
  have hl' : ∀ j, l[j]? = ops[k + 1 + j]? := fun j => by
   have := hl (j + 1)
   rw [List.getElem?_cons_succ] at this
   rw [this, show k + (j + 1) = k + 1 + j by omega]
  simp only [dOpsS] at h
  have build : ∀ (x : MV) (b : Bool), guardOk ops env o = some b → (b = true → ∀ D, OkD ops k o D → OpWp P rd o env (st D) fun x' σ' => x' = x ∧ σ' = st (updD D k)) →
    (b = false → (∀ D, st (updD D k) = st D) ∧ x = .tup []) → dOpsS P rd ops st Q l (k + 1) (putd o.dst x env) →
    ∃ E X B, RowS P rd ops st E X B k ops.size ∧ E k = env ∧ Q (E (k + (o :: l).length)) := by
   intro x b hg hx hx' hr
   obtain ⟨E, X, B, hrow, hE, hQ⟩ := dOpsS_row l (k + 1) _ hl' hr
   refine ⟨fun i => if i = k then env else E i, fun i => if i = k then x else X i, fun i => if i = k then b else B i, ⟨fun i p hi hp => ?_⟩, by simp, ?_⟩
   ·by_cases e : i = k
    ·subst e
     rw [ho] at hp
     injection hp with hp
     subst hp
     simp only [if_true]
     refine ⟨hg, hx, hx', ?_⟩
     rw [if_neg (by omega)]
     exact hE
    ·simp only [if_neg e]
     rw [if_neg (by omega)]
     exact hrow.step i p (by omega) hp
   ·show Q (if k + (o :: l).length = k then env else E (k + (o :: l).length))
    rw [if_neg (by rw [zF0]; omega)]
    rw [zF0, show k + (l.length + 1) = k + 1 + l.length by omega]
    exact hQ
  split at h
  ·rename_i hg
   obtain ⟨x, hx, hr⟩ := h
   exact build x true hg (fun _ => hx) (fun h => by cases h) hr
  ·rename_i hg
   exact build _ false hg (fun h => by cases h) (fun _ => ⟨h.1, rfl⟩) h.2
  ·exact h.elim
theorem rowS_get {E : Nat → Env} {X : Nat → MV} {B : Nat → Bool} (hx : LexS n ops) (hrow : RowS P rd ops st E X B 0 ops.size) : ∀ (i : Nat), i ≤ ops.size → ∀ t,
  (∀ (j : Nat) (p : Oper), j < i → ops[j]? = some p → p.dst = some t → get (E i) t = some (X j)) ∧ ((∀ (j : Nat) (p : Oper), j < i → ops[j]? = some p → p.dst ≠ some t) → get (E i) t = get (E 0) t)
 | 0, _, t => ⟨fun j p hj => by omega, fun _ => rfl⟩
 | i + 1, hi, t => by
  obtain ⟨h1, h2⟩ := rowS_get hx hrow i (by omega) t
  have ho : ops[i]? = some ops[i] := Array.getElem?_eq_getElem (by omega)
  obtain ⟨_, _, _, hE⟩ := hrow.step i _ (Nat.zero_le _) ho
  rw [hE]
  refine ⟨fun j p hj hp hd => ?_, fun hno => ?_⟩
  ·by_cases e : j = i
   ·subst e
    rw [ho] at hp
    injection hp with hp
    subst hp
    rw [hd]
    exact zX4 _ _ _
   ·have hne : ops[i].dst ≠ some t := fun hd' => e (hx.inj j i p _ t hp ho hd hd')
    cases hdo : ops[i].dst with
    | none => exact h1 j p (by omega) hp hd
    | some d =>
     rw [hdo] at hne
     show get ((d, X i) :: E i) t = _
     rw [zS4 _ _ (fun e => hne (by rw [e]))]
     exact h1 j p (by omega) hp hd
  ·have hne := hno i _ (by omega) ho
   have hold := h2 fun j p hj => hno j p (by omega)
   cases hdo : ops[i].dst with
   | none => exact hold
   | some d =>
    rw [hdo] at hne
    show get ((d, X i) :: E i) t = _
    rw [zS4 _ _ (fun e => hne (by rw [e]))]
    exact hold
structure DInvS (P : Program) (rd : Option Nat) (N n m0 : Nat) (ops : Array Oper) (st : (Nat → Bool) → MS) (E : Nat → Env) (X : Nat → MV) (g0 : Gh) (w0 : World) (F : Fence) (listed : Array Bool) (a : Act) (w : World) (g : Gh) : Prop where
 fok : FOkN N g rd F
 rel : Rel g (st fun j => listed.getD j false) w
 le : LeN N g0 w0 g w
 sz : a.tmps.size = n
 marks : Marks m0 w a.defers
 old : ∀ t x, get (E 0) t = some x → (∀ (j : Nat) (p : Oper), ops[j]? = some p → p.dst = some t → listed.getD j true = false) → ∃ v, a.tmps[t]? = some v ∧ Rd g w x v
 new : ∀ (j : Nat) (p : Oper) (d : Nat), listed.getD j false = true → ops[j]? = some p → p.dst = some d → ∃ v, a.tmps[d]? = some v ∧ Rd g w (X j) v
 lsz : listed.size = ops.size
theorem DInvS.reads {m0 : Nat} {E : Nat → Env} {X : Nat → MV} {B : Nat → Bool} {g0 : Gh} {w0 : World} {F : Fence} {listed : Array Bool} {a : Act} {w : World} {g : Gh} (hx : LexS n ops) (hrow : RowS P rd ops st E X B 0 ops.size) (hI : DInvS P rd N n m0 ops st E X g0 w0 F listed a w g)
  {i : Nat} {o : Oper} (hi : ops[i]? = some o) (hnl : listed.getD i true = false) (hdep : ∀ e ∈ o.after, Region.binds .any e = true → listed.getD e.on false = true)
  (hcl : ∀ (j : Nat) (p : Oper), ops[j]? = some p → listed.getD j false = true → ∀ e ∈ p.after, Region.binds .any e = true → listed.getD e.on false = true) {t : Nat} (ht : t ∈ readsOf ops o) {x : MV} (hg : get (E i) t = some x) : ∃ v, a.tmps[t]? = some v ∧ Rd g w x v := by
 have hlt : i < ops.size := (Array.getElem?_eq_some_iff.1 hi).1
 obtain ⟨h1, h2⟩ := rowS_get hx hrow i (by omega) t
 by_cases hex : ∃ (j : Nat) (p : Oper), j < i ∧ ops[j]? = some p ∧ p.dst = some t
 ·obtain ⟨j, p, hji, hp, hd⟩ := hex
  rcases hx.dep i j o p t hi hp ht hd with ⟨_, e, he, hb, hon⟩ | ⟨hij, _⟩ | hij
  ·rw [h1 j p hji hp hd] at hg
   injection hg with hg
   subst hg
   exact hI.new j p t (by rw [← hon]; exact hdep e he hb) hp hd
  ·omega
  ·omega
 ·have hno : ∀ (j : Nat) (p : Oper), j < i → ops[j]? = some p → p.dst ≠ some t := fun j p hj hp hd => hex ⟨j, p, hj, hp, hd⟩
  rw [h2 hno] at hg
  refine hI.old t x hg fun j p hp hd => ?_
  have hjs : j < ops.size := (Array.getElem?_eq_some_iff.1 hp).1
  have hji : ¬ j < i := fun hj => hno j p hj hp hd
  rcases hx.dep i j o p t hi hp ht hd with ⟨hj, _⟩ | ⟨hij, e, he, hb, hon⟩ | hij
  ·omega
  ·cases hl : listed.getD j true with
   | false => rfl
   | true =>
    rw [getD_ff hI.lsz hjs] at hl
    have := hcl j p hp hl e he hb
    rw [hon, ← getD_ff hI.lsz hlt, hnl] at this
    cases this
  ·subst hij; exact hnl
theorem drawS_sound {m0 : Nat} {E : Nat → Env} {X : Nat → MV} {B : Nat → Bool} {g0 : Gh} {w0 : World} {F : Fence} {Q : Exit → Env → MS → Prop} (hx : LexS n ops) (hrow : RowS P rd ops st E X B 0 ops.size) (hQ : Q .normal (E ops.size) (st fun j => Nat.blt j ops.size)) :
  ∀ (fuel : Nat) (listed : Array Bool) (a : Act) (w : World) (g : Gh), DInvS P rd N n m0 ops st E X g0 w0 F listed a w g → (∀ (j : Nat) (p : Oper), ops[j]? = some p → listed.getD j false = true → ∀ e ∈ p.after, Region.binds .any e = true → listed.getD e.on false = true) →
   (List.range ops.size).countP (fun i => !listed.getD i true) ≤ fuel → wpAnyIn F 0 P .any ops (Left_ N g0 w0 n m0 Q) fuel listed a w := by
 have hend : ∀ (listed : Array Bool) (a : Act) (w : World) (g : Gh), DInvS P rd N n m0 ops st E X g0 w0 F listed a w g → (∀ i, i < ops.size → listed.getD i true = true) → Left_ N g0 w0 n m0 Q .normal a w := by
  intro listed a w g hI hall
  have hallf : ∀ i, i < ops.size → listed.getD i false = true := fun i hi => by rw [← getD_ff hI.lsz hi]; exact hall i hi
  have hs : (fun j => listed.getD j false) = fun j => Nat.blt j ops.size := by
   funext j
   rcases Nat.lt_or_ge j ops.size with h | h
   ·rw [hallf j h]
    exact (by simpa using h : Nat.blt j ops.size = true).symm
   ·have h2 : Nat.blt j ops.size = false := by
     cases hb : Nat.blt j ops.size with
     | false => rfl
     | true =>
      have : j < ops.size := by simpa using hb
      omega
    rw [h2]
    have := hI.lsz
    simp [Array.getD_eq_getD_getElem?, Array.getElem?_eq_none (show listed.size ≤ j by omega)]
  have hrel := hI.rel
  rw [hs] at hrel
  refine ⟨E ops.size, _, g, hQ, hrel, fun t x hg => ?_, hI.le, hI.sz, hI.marks⟩
  obtain ⟨h1, h2⟩ := rowS_get hx hrow ops.size (Nat.le_refl _) t
  by_cases hex : ∃ (j : Nat) (p : Oper), ops[j]? = some p ∧ p.dst = some t
  ·obtain ⟨j, p, hp, hd⟩ := hex
   have hlt : j < ops.size := (Array.getElem?_eq_some_iff.1 hp).1
   rw [h1 j p hlt hp hd] at hg
   injection hg with hg
   subst hg
   exact hI.new j p t (hallf j hlt) hp hd
  ·have hno : ∀ (j : Nat) (p : Oper), ops[j]? = some p → p.dst ≠ some t := fun j p hp hd => hex ⟨j, p, hp, hd⟩
   rw [h2 fun j p _ hp => hno j p hp] at hg
   exact hI.old t x hg fun j p hp hd => absurd hd (hno j p hp)
 have hready : ∀ (listed : Array Bool), listed.size = ops.size → Region.ready .any ops listed = [] → ∀ i, i < ops.size → listed.getD i true = true := by
  intro listed hls hnil i
  induction i using Nat.strongRecOn with
  | _ i ih =>
   intro hi
   cases hli : listed.getD i true with
   | true => rfl
   | false =>
    exfalso
    have ho : ops[i]? = some ops[i] := Array.getElem?_eq_getElem hi
    have hm : i ∈ Region.ready .any ops listed := by
     simp only [Region.ready, List.mem_filter, List.mem_range, Bool.and_eq_true]
     refine ⟨hi, by rw [hli]; rfl, ?_⟩
     rw [ho]
     simp only [Option.map_some, Option.getD_some, Array.all_eq_true_iff_forall_mem, Bool.or_eq_true, Bool.not_eq_true']
     intro e he
     cases hb : Region.binds .any e with
     | false => exact .inl rfl
     | true =>
      right
      have hlt := hx.back i _ e ho he hb
      rw [← getD_ff hls (show e.on < ops.size by omega)]
      exact ih e.on hlt (by omega)
    rw [hnil] at hm
    cases hm
 intro fuel
 induction fuel with
 | zero =>
  intro listed a w g hI hcl hc
  have hall : ∀ i, i < ops.size → listed.getD i true = true := by
   intro i hi
   have h0 : (List.range ops.size).countP (fun i => !listed.getD i true) = 0 := by omega
   rw [List.countP_eq_zero] at h0
   have := h0 i (List.mem_range.2 hi)
   simpa using this
  refine ⟨?_, hend listed a w g hI hall⟩
  simp only [Region.ready, List.filter_eq_nil_iff, List.mem_range, Bool.and_eq_true, not_and]
  intro i hi hf
  rw [hall i hi] at hf
  cases hf
 | succ fuel ih =>
  intro listed a w g hI hcl hc
  refine ⟨fun hnil => hend listed a w g hI (hready listed hI.lsz hnil), fun i hi => ?_⟩
  obtain ⟨hlt, hnl, hdep⟩ : i < ops.size ∧ listed.getD i true = false ∧ ∀ (o : Oper), ops[i]? = some o → ∀ e ∈ o.after, Region.binds .any e = true → listed.getD e.on false = true := by
   simp only [Region.ready, List.mem_filter, List.mem_range, Bool.and_eq_true, Bool.not_eq_true'] at hi
   refine ⟨hi.1, hi.2.1, fun o ho e he hb => ?_⟩
   have := hi.2.2
   rw [ho] at this
   simp only [Option.map_some, Option.getD_some, Array.all_eq_true_iff_forall_mem, Bool.or_eq_true, Bool.not_eq_true'] at this
   rcases this e he with h | h
   ·rw [hb] at h; cases h
   ·exact h
  have ho : ops[i]? = some ops[i] := Array.getElem?_eq_getElem hlt
  obtain ⟨hg, hT, hF, hE⟩ := hrow.step i _ (Nat.zero_le _) ho
  have hil : i < listed.size := by rw [hI.lsz]; exact hlt
  have hnlf : listed.getD i false = false := by rw [← getD_ff hI.lsz hlt]; exact hnl
  have hwant : Region.wanted ops[i] (yielded ops a.tmps) = B i := by
   refine guardOk_wanted (g := g) (w := w) hg fun j want d x hgd hjd hx' => ?_
   refine hI.reads hx hrow ho hnl (hdep _ ho) hcl ?_ hx'
   simp only [readsOf, hgd, hjd, Option.toList_some]
   simp
  have hset : ∀ j, j ≠ i → (listed.setIfInBounds i true).getD j false = listed.getD j false := fun j hj => getD_set_ne _ (fun h => hj h.symm)
  have hseti : (listed.setIfInBounds i true).getD i false = true := by simp [Array.getD_eq_getD_getElem?, Array.getElem?_setIfInBounds_self_of_lt hil]
  have hupd : (fun j => (listed.setIfInBounds i true).getD j false) = updD (fun j => listed.getD j false) i := by
   funext j
   unfold updD
   by_cases e : j = i
   ·subst e; rw [if_pos rfl]; exact hseti
   ·rw [if_neg e]; exact hset j e
  have next : ∀ (v : Value) (w' : World) (g' : Gh), Rel g' (st (updD (fun j => listed.getD j false) i)) w' → Rd g' w' (X i) v → Le g w g' w' →
    wpAnyIn F 0 P .any ops (Left_ N g0 w0 n m0 Q) fuel (listed.setIfInBounds i true) (a.put ops[i].dst v) w' := by
   intro v w' g' hr' hv hl
   refine ih _ _ w' g' ⟨hI.fok.mono (hl.toN N), by rw [hupd]; exact hr', hI.le.trans (hl.toN N), by rw [size_put]; exact hI.sz, by rw [defers_put]; exact hI.marks.mono hl, fun t x hgt hno => ?_, fun j p d hj hp hd => ?_, by simpa using hI.lsz⟩ (fun j p hp hj e he hb => ?_) ?_
   ·have hnoi : ops[i].dst ≠ some t := fun hd => by
     have := hno i _ ho hd
     simp [Array.getD_eq_getD_getElem?, Array.getElem?_setIfInBounds_self_of_lt hil] at this
    obtain ⟨u, hu, hr⟩ := hI.old t x hgt fun j p hp hd => by
     have hji : j ≠ i := fun e => by
      subst e
      rw [ho] at hp
      injection hp with hp
      subst hp
      exact hnoi hd
     have := hno j p hp hd
     rw [getD_set_ne _ (fun h => hji h.symm)] at this
     exact this
    refine ⟨u, ?_, hr.mono hl⟩
    cases hd : ops[i].dst with
    | none => exact hu
    | some d =>
     rw [hd] at hnoi
     show (a.tmps.setIfInBounds d v)[t]? = _
     rw [Array.getElem?_setIfInBounds_ne (fun e => hnoi (by rw [e]))]
     exact hu
   ·by_cases e : j = i
    ·subst e
     rw [ho] at hp
     injection hp with hp
     subst hp
     refine ⟨v, ?_, hv⟩
     rw [hd]
     show (a.tmps.setIfInBounds d v)[d]? = _
     have := hx.lt j _ d ho hd
     simp [Array.getElem?_setIfInBounds_self_of_lt (show d < a.tmps.size by rw [hI.sz]; exact this)]
    ·rw [hset j e] at hj
     obtain ⟨u, hu, hr⟩ := hI.new j p d hj hp hd
     refine ⟨u, ?_, hr.mono hl⟩
     cases hdi : ops[i].dst with
     | none => exact hu
     | some d' =>
      show (a.tmps.setIfInBounds d' v)[d]? = _
      rw [Array.getElem?_setIfInBounds_ne (fun ed => e (hx.inj j i p _ d hp ho hd (by rw [hdi, ed])))]
      exact hu
   ·have hon : listed.getD e.on false = true := by
     by_cases ej : j = i
     ·subst ej
      rw [ho] at hp
      injection hp with hp
      subst hp
      exact hdep _ ho e he hb
     ·rw [hset j ej] at hj
      exact hcl j p hp hj e he hb
    exact getD_set_true hon
   ·have hlt2 : (List.range ops.size).countP (fun k => !(listed.setIfInBounds i true).getD k true) < (List.range ops.size).countP (fun k => !listed.getD k true) := by
     have hsplit : ∀ (l : List Nat), i ∈ l → l.countP (fun k => !(listed.setIfInBounds i true).getD k true) < l.countP (fun k => !listed.getD k true) := by
      have hle : ∀ (l : List Nat), l.countP (fun k => !(listed.setIfInBounds i true).getD k true) ≤ l.countP (fun k => !listed.getD k true) := by
       intro l
       refine List.countP_mono_left fun k _ hk => ?_
       by_cases e : k = i
       ·subst e
        simp [Array.getD_eq_getD_getElem?, Array.getElem?_setIfInBounds_self_of_lt hil] at hk
       ·rw [getD_set_ne _ (fun h => e h.symm)] at hk
        exact hk
      intro l
      induction l with
      | nil => intro h; cases h
      | cons k l ihl =>
       intro hm
       rw [List.countP_cons, List.countP_cons]
       by_cases e : k = i
       ·subst e
        have e1 : (!(listed.setIfInBounds k true).getD k true) = false := by simp [Array.getD_eq_getD_getElem?, Array.getElem?_setIfInBounds_self_of_lt hil]
        rw [e1, hnl]
        have := hle l
        simp only [Bool.not_false, if_true, Bool.false_eq_true, if_false]
        omega
       ·have hm' : i ∈ l := by
         rcases List.mem_cons.1 hm with h | h
         ·exact absurd h.symm e
         ·exact h
        have := ihl hm'
        rw [getD_set_ne _ (fun h => e h.symm)]
        omega
     exact hsplit _ (List.mem_range.2 hlt)
    omega
  have hopd : ∀ x ∈ ops[i].op.operands, ∀ m, evo (E i) x = some m → Rd g w m (a.eval x) := fun x hxo m hm => by
   cases x with
   | tmp t =>
    obtain ⟨v, hv, hr⟩ := hI.reads hx hrow ho hnl (hdep _ ho) hcl (t := t) (by
     simp only [readsOf, zV2]
     left
     simp only [opTmps, List.mem_filterMap]
     exact ⟨.tmp t, by simpa using hxo, rfl⟩) hm
    simp only [Act.eval, Array.getD_eq_getD_getElem?, hv, Option.getD_some]
    exact hr
   | const v => exact zZ5 _ _ hm
   | func f =>
    injection hm with hm
    subst hm
    exact .fn' (.nil _ _) (.nil _ _)
   | global _ => cases hm
  have hok : OkD ops i ops[i] (fun j => listed.getD j false) := by
   refine ⟨hnlf, fun e hb => ?_, fun j p hp hj e hb => ?_⟩
   ·obtain ⟨ed, hed, hbd, hon⟩ := bindsOn_iff.1 hb
    rw [← hon]
    exact hdep _ ho ed hed hbd
   ·obtain ⟨ed, hed, hbd, hon⟩ := bindsOn_iff.1 hb
    rw [← hon]
    exact hcl j p hp hj ed hed hbd
  unfold wpOpIn
  rw [ho]
  simp only
  rw [hwant]
  cases hB : B i with
  | true =>
   simp only [if_true]
   have hop := hT hB _ hok g w a F hI.fok.ok hI.rel hopd
   have h2 := Oper.wpIn_mono (K' := wpAnyIn F 0 P .any ops (Left_ N g0 w0 n m0 Q) fuel (listed.setIfInBounds i true)) ?_ hop
   ·refine ⟨h2.1, ?_⟩
    have h3 := h2.2
    revert h3
    generalize (Oper.semAt F.round a.eval ops[i]).run P w = r
    intro h3
    cases r with
    | ok x w' =>
     cases x with
     | value v => exact h3
     | skip => exact h3
     | defer d => exact h3
     | enter f args =>
      refine ⟨h3.1, h3.2.mono ?_⟩
      rintro (⟨v⟩ | ⟨c⟩ | _) w'' hx
      ·exact hx
      ·exact hx.elim
      ·obtain ⟨_, _, hx⟩ := hx; exact hx.elim
     | row r' args => exact h3
     | round l f t b c =>
      refine ⟨h3.1, h3.2.mono ?_⟩
      rintro (⟨v⟩ | ⟨c⟩ | _) w'' hx
      ·exact hx
      ·exact hx.elim
      ·obtain ⟨_, _, hx⟩ := hx; exact hx.elim
     | _ => exact h3.elim
    | halt x w' =>
     cases x with
     | panic v => exact h3.elim
     | _ => exact h3.elim
   ·rintro a' w' ⟨v, rfl, x, σ', g', ⟨rfl, rfl⟩, hr', hv, hl⟩
    exact next v w' g' hr' hv hl
  | false =>
   simp only [Bool.false_eq_true, if_false]
   obtain ⟨hne, hX⟩ := hF hB
   refine ⟨fun f _ => hI.fok.ok.fn f, next undef w g (by rw [hne]; exact hI.rel) ?_ (.refl _ _)⟩
   rw [hX]
   exact rd_undef _ _
theorem mwp_drawS {Q : Exit → Env → MS → Prop} {id : Nat} (st : (Nat → Bool) → MS) (hm : P.follows .mixedOrders = true) (hb : lexOk n ops = true) (h0 : st (fun _ => false) = σ)
  (h : dOpsS P rd ops st (fun env => Q .normal env (st fun j => Nat.blt j ops.size)) ops.toList 0 env) : mwp P rd N n (.region id ops true) Q env σ := by
 intro g w a F m0 hF hr he hn hmk
 have hx := lexOk_spec hb
 obtain ⟨E, X, B, hrow, hE, hQ⟩ := dOpsS_row (P := P) (rd := rd) ops.toList 0 env (fun j => by simp) h
 rw [Nat.zero_add, Array.length_toList] at hQ
 refine wpIn_region_any hm ?_
 have hl := Le.drew g w
 have hrepf : ∀ (j : Nat), (Array.replicate ops.size false).getD j false = false := fun j => by
  simp only [Array.getD_eq_getD_getElem?, Array.getElem?_replicate]
  split <;> rfl
 have h0' : st (fun j => (Array.replicate ops.size false).getD j false) = σ := by
  rw [← h0]
  congr 1
  funext j
  exact hrepf j
 refine drawS_sound hx hrow hQ ops.size _ a w.drew g ⟨hF.mono (hl.toN N), by rw [h0']; exact hr.drew, hl.toN N, hn, hmk.mono hl, fun t x hg hno => ?_, fun j p d hj hp hd => ?_, by simp⟩ (fun j p hp hj => ?_) ?_
 ·rw [hE] at hg
  obtain ⟨v, hv, hrd⟩ := he t x hg
  exact ⟨v, hv, hrd.mono hl⟩
 ·rw [hrepf] at hj; cases hj
 ·rw [hrepf] at hj; cases hj
 ·have := List.countP_le_length (p := fun i => !(Array.replicate ops.size false).getD i true) (l := List.range ops.size)
  rw [List.length_range] at this
  exact this
end
end
section
section
variable {P : Program} {rd : Option Nat} {o : Oper} {env : Env} {σ : MS} {K : MV → MS → Prop}
theorem op_alloc_ow {t sz id : Nat} {l : List MV} (ho : o.op = .alloc t) (hz : zeroMV P t = some l) (hσ : σ[id]? = some (.orow t sz 0 [])) (hsz : l.length = sz) (h : K (.orf id 1 0) (σ.set id (.orow t sz 1 l))) : OpWp P rd o env σ K := by
 refine OpWp.of_run (by simp [ho]) fun g w a hr hop => ?_
 obtain ⟨z, k0, k1⟩ := zeroMV_some hz
 have htl : id < σ.length := (zD.1 hσ).1
 obtain ⟨own, ho'⟩ := hr.ex
 obtain ⟨v0, us0, f1, f2, f3, f4, f5, f6⟩ := ho'.obj id _ hσ
 generalize hus : z.cells.toList = us at k1
 have hul : us.length = sz := by rw [(k1 g w).1, hsz]
 refine ⟨.pointer (some ⟨w.heap.size, 0, none⟩), w.alloc (.cells us.toArray t), by simp [execOp, ho, Instr.alloc, k0, newVar, newRow, ← hus], ?_⟩
 have l2 := Le.alloc_stab hr (.cells us.toArray t) 0
 have r2 := hr.alloc_stab (.cells us.toArray t) 0
 generalize hg1 : g.stab w.heap.size 0 = g1 at l2 r2
 generalize hw1 : w.alloc (.cells us.toArray t) = w1 at l2 r2
 have ho1 : Owns g1 σ w1 own := by
  refine ho'.keep l2 (fun id b e => ?_) (fun _ _ => by rw [← hg1]; rfl)
  have hlt := (ho'.lt id b e).2.2
  rw [← hg1, ← hw1]
  refine ⟨Below.heap_alloc w _ b hlt, ?_⟩
  simp only [Gh.stab]
  exact if_neg (Nat.ne_of_lt hlt)
 have l3 : Le g1 w1 (g1.log id 1 (.slice (some ⟨w.heap.size, 0, none⟩) 1 1)) w1 := by
  refine ⟨⟨rfl, rfl, fun _ _ h => ⟨h, rfl⟩, fun _ _ h => h, fun s k u hv => ?_, Nat.le_refl _⟩, fun _ _ h => h⟩
  simp only [Gh.log]
  rw [if_neg]
  ·exact hv
  ·rintro ⟨rfl, rfl⟩
   have : g1.lg s 1 = g.lg s 1 := by rw [← hg1]; rfl
   rw [this, f5 _ (by omega)] at hv
   cases hv
 have hheap : w1.heap[w.heap.size]? = some (.cells us.toArray t (0, 0)) := by rw [← hw1]; exact heap_new w _
 have hsize : w1.heap.size = w.heap.size + 1 := by rw [← hw1]; simp
 have lall := l2.trans l3
 refine ⟨_, _, g1.log id 1 (.slice (some ⟨w.heap.size, 0, none⟩) 1 1), h, ?_, ?_, lall⟩
 ·refine Rel.obj_set r2 htl ho1 l3 r2.below r2.fresh V (fun i k hid => ?_) (fun i b hid hb => Vv) (ob := some w.heap.size) ?_ (fun i b hid hb e => ?_) (fun b hb => ?_)
  ·simp only [Gh.log]; rw [if_neg (fun h => hid h.1)]
  ·refine ⟨.slice (some ⟨w.heap.size, 0, none⟩) 1 1, us, by simp [Gh.log], ?_, rfl, fun b hb => ?_, fun k hk => ?_, k1 _ _⟩
   ·refine ⟨by rw [hul, Nat.one_mul], .inr ⟨w.heap.size, 1, _, rfl, ?_, hheap, Nat.le_refl _, by simp [maxLen], by simpa using hul, ?_⟩⟩
    ·have : (g1.log id 1 (.slice (some ⟨w.heap.size, 0, none⟩) 1 1)).B = g.B := lall.B
     rw [this]
     exact hr.size
    ·exact List.take_of_length_le (by simp; omega)
   ·injection hb with hb
    subst hb
    rw [← hg1]
    simp [Gh.log, Gh.stab]
   ·simp only [Gh.log]
    rw [if_neg (by omega), ← hg1]
    exact f5 k (by omega)
  ·have := (ho'.lt i b hb).2.2
   injection e with e
   omega
  ·injection hb with hb
   subst hb
   refine ⟨?_, by omega⟩
   rw [← hg1]
   exact hr.size
 ·exact .orf _ _ _ w.heap.size 1 (by simp [Gh.log])
end
theorem mwp_hole {P : Program} {rd : Option Nat} {N n : Nat} {c : Code} {Q : Exit → Env → MS → Prop} {env : Env} {σ : MS} (ty sz : Nat) (h : mwp P rd N n c Q env (σ ++ [.orow ty sz 0 []])) : mwp P rd N n c Q env σ := by
 refine mwp_ghost (fun g w tmps hr he => ?_) h
 obtain ⟨r1, l1, d1⟩ := ow_new hr ty sz
 exact ⟨_, r1, he.mono l1, l1.toN N, fun F hF => hF.mono (l1.toN N)⟩
def hol (ty sz : Nat) (z v : List MV) (p q : Bool) : MObj := if p = true then .orow ty sz 1 (if q = true then v else z) else .orow ty sz 0 []
section
variable {P : Program} {rd : Option Nat} {o : Oper} {env : Env} {B : MS} {ty sz a b c d : Nat} {z vx vy : List MV} {D : Nat → Bool}
theorem no_later {ops : Array Oper} {i j : Nat} {o p : Oper} {D : Nat → Bool} (h : OkD ops i o D) (hp : ops[j]? = some p) (he : bindsOn p i = true) : D j = false := by
 cases hd : D j with
 | false => rfl
 | true =>
  have := h.2.2 j p hp hd i he
  rw [h.1] at this
  cases this
end
end
section
theorem row_new0 {g : Gh} {σ : MS} {w : World} (h : Rel g σ w) (ty sz : Nat) (mo : MObj)
  (hmo : ∀ (g' : Gh) (w' : World) (b : Nat) (v : Value), g'.lg σ.length 0 = some v → w'.ownsRow g'.B ty sz v 0 [] → v.ownBlock = some b → g'.st b = 0 → (∀ k, 0 < k → g'.lg σ.length k = none) → ObjRel g' w' (some b) σ.length mo) :
  Rel ((g.stab w.heap.size 0).log σ.length 0 (.slice (some ⟨w.heap.size, 0, none⟩) 0 0)) (σ ++ [mo]) (w.alloc (.cells #[] ty)) ∧ Le g w ((g.stab w.heap.size 0).log σ.length 0 (.slice (some ⟨w.heap.size, 0, none⟩) 0 0)) (w.alloc (.cells #[] ty)) := by
 obtain ⟨own, ho⟩ := h.ex
 have r1 := h.alloc_stab (.cells #[] ty) 0
 have l1 := Le.alloc_stab h (.cells #[] ty) 0
 have ho1 : Owns (g.stab w.heap.size 0) σ (w.alloc (.cells #[] ty)) own := ho.keep l1 (fun id b e => by
  have hlt := (ho.lt id b e).2.2
  refine ⟨Below.heap_alloc w _ b hlt, ?_⟩
  simp only [Gh.stab]
  rw [if_neg (by omega)]) (fun _ _ => rfl)
 have hl : Le (g.stab w.heap.size 0) (w.alloc (.cells #[] ty)) ((g.stab w.heap.size 0).log σ.length 0 (.slice (some ⟨w.heap.size, 0, none⟩) 0 0)) (w.alloc (.cells #[] ty)) := by
  refine ⟨⟨rfl, rfl, fun _ _ h => ⟨h, rfl⟩, fun _ _ h => h, fun t n v hv => ?_, Nat.le_refl _⟩, fun _ _ h => h⟩
  simp only [Gh.log]
  rw [if_neg (fun e => by rw [r1.lgn t n (by omega)] at hv; cases hv)]
  exact hv
 refine ⟨⟨r1.below, r1.base, r1.fresh, fun id hid => r1.bkn id (by simp at hid; omega), fun t n ht => ?_, ?_⟩, l1.trans hl⟩
 ·simp at ht
  simp only [Gh.log]
  rw [if_neg (by omega)]
  exact r1.lgn t n (by omega)
 ·refine ⟨fun id => if id = σ.length then some w.heap.size else own id, ⟨fun id o hid => ?_, fun i j b hi hj => ?_, fun id b hid => ?_⟩⟩
  ·by_cases e : id = σ.length
   ·subst e
    rw [List.getElem?_append_right (Nat.le_refl _)] at hid
    simp at hid
    subst hid
    simp only [if_true]
    refine hmo _ _ w.heap.size _ (by simp [Gh.log]) (World.ownsRow_made w #[] 0 h.size (Nat.zero_le _) (by simp)) V (by simp [Gh.log, Gh.stab]) fun k hk => ?_
    simp only [Gh.log]
    rw [if_neg (by omega)]
    exact r1.lgn _ _ (Nat.le_refl _)
   ·rw [if_neg e]
    have hlt : id < σ.length := by
     have := (zD.1 hid).1
     simp at this
     omega
    rw [List.getElem?_append_left hlt] at hid
    refine (ho1.obj id o hid).keep0 hl.toLe0 (fun b _ => Vv) fun k => ?_
    simp only [Gh.log]
    rw [if_neg (by omega)]
  ·have hne : ∀ {i b}, own i = some b → b ≠ w.heap.size := fun {i b} hi => by have := (ho.lt i b hi).2.2; omega
   split at hi
   ·split at hj
    ·omega
    ·rename_i e1 e2
     injection hi with hi
     exact absurd hi.symm (hne hj)
   ·split at hj
    ·injection hj with hj
     exact absurd hj.symm (hne hi)
    ·exact ho.inj i j b hi hj
  ·split at hid
   ·injection hid with hid
    subst hid
    rename_i e
    exact ⟨by simp; omega, h.size, by simp⟩
   ·obtain ⟨h1, h2, h3⟩ := ho.lt id b hid
    exact ⟨by simp; omega, h2, by simp; omega⟩
section
variable {P : Program} {rd : Option Nat} {o : Oper} {env : Env} {σ : MS} {K : MV → MS → Prop}
theorem run_build0 {t e sz bytes : Nat} (hu : P.underlying t = some (.slice e)) (he : elemOk P e sz bytes = true) (w : World) : (Instr.buildSlice t 0 #[]).run P w = .ok (.slice (some ⟨w.heap.size, 0, none⟩) 0 0) (w.alloc (.cells #[] e)) := by
 obtain ⟨i, z, hi, hz, hs, hb, hzs, hpos⟩ := elemOk_spec he
 simp [Instr.buildSlice, run_underlying hu, sizeOf, typeInfo, hi, Instr.fill, newRow]
 congr 2
 apply Array.ext <;> simp
theorem op_buildSlice0 {t e sz bytes : Nat} (ho : o.op = .buildSlice t 0 #[]) (hu : P.underlying t = some (.slice e)) (he : elemOk P e sz bytes = true) (h : K (.lst (some σ.length) sz []) (σ ++ [.row e sz 0])) : OpWp P rd o env σ K := by
 refine OpWp.of_run (by simp [ho]) fun g w a hr hop => ?_
 obtain ⟨r1, l1⟩ := row_new0 hr e sz (.row e sz 0) (fun g' w' b v h1 h2 h3 h4 h5 => ⟨v, [], h1, h2, h3, fun b' hb => (by injection hb with hb; subst hb; rw [h4]; omega), h5⟩)
 refine ⟨.slice (some ⟨w.heap.size, 0, none⟩) 0 0, w.alloc (.cells #[] e), ?_, _, _, _, h, r1, .lst' (us := []) V (by simp) (by simp [maxLen]) (by simp) (.nil _ _) (by simp) (fun t ht => by injection ht with ht; subst ht; simp [Gh.log]), l1⟩
 simp only [execOp, ho, Sem.run_bind]
 simp [run_build0 (P := P) hu he w]
theorem op_slicenil {x y : Operand} {tok : Option Nat} {sz : Nat} {xs : List MV} {t e t' : TypeId} (ho : o.op = .binOp .eql t x y t') (hu : P.underlying t = some (.slice e)) (hx : evo env x = some (.lst tok sz xs)) (hy : evo env y = some .lst0) (hsz : 0 < sz)
  (h : ∀ b, (b = true → xs = []) → K (.bool b) σ) : OpWp P rd o env σ K := by
 refine OpWp.of_run (by simp [ho]) fun g w a hr hop => ?_
 obtain ⟨ad, c, us, e1, h1, h2, h3, h4, h5, _⟩ := (hop x (by simp [ho, Op.operands]) _ hx).inv_lst
 have e2 := (hop y (by simp [ho, Op.operands]) _ hy).inv_lst0
 have hnil : ad.isNone = true → xs = [] := fun hn => by
  cases xs with
  | nil => rfl
  | cons x0 xs' =>
   have hz := h3 x0 (by simp)
   have hl := h4.1
   have : 0 < us.length := by
    rw [hl]
    simp only [flat, List.flatMap_cons, zG]
    omega
   obtain ⟨ad', hh, _⟩ := h5 0 us[0] (zC this)
   subst hh
   cases hn
 refine ⟨.bool ad.isNone, w, ?_, .same (h _ hnil) hr (.bool _)⟩
 simp only [execOp, ho, e1, e2, Sem.run_bind, Sem.run_pure]
 simp [eqGuard, Lib.run_eql_slice_nil w t e ad xs.length c 0 0 hu]
end
end
end Go.MV
namespace Go.Proofs.YtciimaabeabkdaaGreatDoor
open Go Go.MV
theorem gtr_nil {α : Type} {en : α → MV} : intCmp .gtr (((([] : List α).map en).length : Nat) : Int) 0 = some false := rfl
theorem gtr_cons {α : Type} {en : α → MV} {x : α} {l : List α} : intCmp .gtr ((((x :: l).map en).length : Nat) : Int) 0 = some true := by simp [intCmp]
theorem merge_cons {α : Type} {cmp : α → α → Int} {bo : α → α → α} {x y : α} {a b : List α} : mergeF cmp bo (x :: a) (y :: b) = if cmp x y < 0 then x :: mergeF cmp bo a (y :: b) else if cmp x y > 0 then y :: mergeF cmp bo (x :: a) b else bo x y :: mergeF cmp bo a b := by rw [mergeF]
theorem _root_.zA0 : type_of% @Tryz.underlying202 := @Tryz.underlying202
theorem clkIs_spec (c : List Tk) (S : MS) : MCalls Tryz.prog 211 [.lst none 2 (c.map encT)] S fun v σ' => v = .bool (isClockF c) ∧ σ' = S := by
 refine zM Tryz.func211 V Tryz.ntmps211 (zA V) ?_
 refine zL3 (t := 0) V fun hlen => ?_
 rw [zF] at hlen
 refine zB <| qR V <| qA V V V <| qN <| zB <| zB <| qR V <| qM V V V <| qE V V zA0 V <| qM V V V <| qN <| zX ?_
 refine zD4 (α := Nat) [(0, _), (5, _), (6, _)] (fun i => [(7, .int .i64 (i : Int))]) (fun i => []) (fun i => i ≤ c.length ∧ ∀ j, j < i → okAt c j = true) (fun i => c.length - i) (0) (Nat.le_refl _) (.keep V (.keep V (.keep V (.nil)))) (.keep V (.nil)) (⟨by omega, fun j hj => by omega⟩) (V) ?_
 rintro i ⟨hi, hall⟩
 refine zB <| qR V <| qC V V V V V <| qN <| zB ?_
 refine zJ V (fun h8 => ?_) (fun h8 => ?_)
 ·
  have hlt : i < c.length := by simpa using h8
  obtain ⟨t, hs⟩ : ∃ q_, c[i]? = some q_ := ⟨_, zC hlt⟩
  refine zQ <| zB <| zX <| zB <| qR V <| qM V V V <| qO V <| zK V zA0 sz262 (by decide) V V V (zE1 hs) ?_
  refine qO V <| zO V V ta262 V <| qO V <| zN0 V zm262 V V <| qA V V V <| qO V <| zC0 V V V V sz262 V V (zA V) V <| qN <| zB ?_
  refine zX0 [] [_] mo (by decide) V V V V ?_
  refine dO V V V (zE V V zB6 Vv) <| dO V V V (zO0 V V V ta3 V Vv) <| dO V V V (zW2 V V V V Vv) <| dO V V V (zY V V Vv) ?_
  refine zT3 (fun h15 => ?_) (fun h15 => ?_)
  ·
   refine dS V V <| dS V V <| dS V V <| dO V V V (zO1 V V V Vv) <| dO V V V (zY V V Vv) <| dS V V <| dS V V <| dS V V <| dO V V V (zO1 V V V Vv) <| dO V V V (zY V V Vv) <| dS V V <| dS V V <| dS V V <| dS V V <| dS V V <| dS V V <| dS V V <| dS V V <| dS V V <| dS V V <| dS V V <| dS V V <| dS V V <| dO V V V (zO1 V V V Vv) <| zP0 <| zT V (V) <| zB <| qR V <| qA V V V ?_
   refine qN <| zI ?_
   exact zR (.inr V) Tryz.results211 V (.of_eq (by rw [isClock_false hlt (by simp_all [okAt] <;> omega)])) (.bool _) Vv
  ·
   refine dO V V V (zE V V zB6 Vv) <| dO V V V (zO0 V V V ta3 V Vv) <| dO V V V (zW2 V V V V Vv) <| dO V V V (zO1 V V V Vv) <| dO V V V (zY V V Vv) ?_
   refine zT3 (fun h20 => ?_) (fun h20 => ?_)
   ·
    refine dS V V <| dS V V <| dS V V <| dO V V V (zO1 V V V Vv) <| dO V V V (zY V V Vv) <| dS V V <| dS V V <| dS V V <| dS V V <| dS V V <| dS V V <| dS V V <| dS V V <| dS V V <| dS V V <| dS V V <| dS V V <| dS V V <| dO V V V (zO1 V V V Vv) <| zP0 <| zT V (V) <| zB <| qR V <| qA V V V <| qN <| zI ?_
    exact zR (.inr V) Tryz.results211 V (.of_eq (by rw [isClock_false hlt (by simp_all [okAt] <;> omega)])) (.bool _) Vv
   ·
    refine dO V V V (zE V V fo262_1 Vv) <| dO V V V (zO0 V V V ta22 V Vv) <| dO V V V (zW2 V V V V Vv) <| dO V V V (zO1 V V V Vv) <| dO V V V (zY V V Vv) ?_
    refine zT3 (fun h25 => ?_) (fun h25 => ?_)
    ·
     refine dS V V <| dS V V <| dS V V <| dS V V <| dS V V <| dS V V <| dS V V <| dS V V <| dS V V <| dS V V <| dS V V <| dS V V <| dS V V <| dO V V V (zO1 V V V Vv) <| zP0 <| zT V (V) <| zB <| qR V <| qA V V V <| qN <| zI ?_
     exact zR (.inr V) Tryz.results211 V (.of_eq (by rw [isClock_false hlt (by simp_all [okAt] <;> omega)])) (.bool _) Vv
    ·
     refine dO V V V (zY V V Vv) <| dO V V V (zW2 V V V V Vv) <| dO V V V (zY V V Vv) ?_
     refine zT3 (fun h28 => ?_) (fun h28 => ?_)
     ·
      have hi0 : 0 < i := by simpa using h28
      obtain ⟨p, hp⟩ : ∃ a, c[i - 1]? = some a := ⟨_, zC (by omega)⟩
      refine dO V V V (zE V V zB6 Vv) <| dO V V V (zO0 V V V ta3 V Vv) <| dO V V V (zY V V Vv) <| dO V V V (zY V V Vv) <| dO V V V (zT0 V V V (wsub (a := i) (b := 1) (c := i - 1) (by omega) (by simp only [maxLen] at hlen; omega)) Vv) ?_
      refine dO V V V (zK V zA0 sz262 (by decide) V V V (zE1 hp) Vv) ?_
      refine dO V V V (zG1 V V zB6 Vv) <| dO V V V (zO V V ta3 V Vv) <| dO V V V (zW2 V V V V Vv) <| dO V V V (zO1 V V V Vv) <| dO V V V (zO1 V V V Vv) <| zP0 ?_
      refine zJ V (fun h39 => ?_) (fun h39 => ?_)
      ·
       refine zB <| qR V <| qA V V V <| qN <| zI ?_
       exact zR (.inr V) Tryz.results211 V (.of_eq (by rw [isClock_false hlt (by simp_all [okAt] <;> omega)])) (.bool _) Vv
      ·
       refine zQ <| qR V <| qO V <| zT0 V V V V <| qM V V V <| qN ?_
       refine ⟨i + 1, _, by omega, ⟨by omega, fun j hj => ?_⟩, rfl, .nil, (.old V V (.old V V (.old V V (.nil)))), (.new' V (zQ1 hlt hlen) (.int _ _) (.nil))⟩
       by_cases e : j = i
       ·subst e; simp_all [okAt]
       ·exact hall j (by omega)
     ·
      refine dS V V <| dS V V <| dS V V <| dS V V <| dS V V <| dS V V <| dS V V <| dS V V <| dS V V <| dO V V V (zO1 V V V Vv) <| dO V V V (zO1 V V V Vv) <| zP0 <| zL V (V) <| zQ <| qR V <| qO V <| zT0 V V V V <| qM V V V <| qN ?_
      refine ⟨i + 1, _, by omega, ⟨by omega, fun j hj => ?_⟩, rfl, .nil, (.old V V (.old V V (.old V V (.nil)))), (.new' V (zQ1 hlt hlen) (.int _ _) (.nil))⟩
      by_cases e : j = i
      ·subst e; simp_all [okAt]
      ·exact hall j (by omega)
 ·
  have hge : i = c.length := by simp at h8; omega
  refine zM1 <| zB <| qR V <| qM V V V <| qE V V zA0 V <| qC V V V V V <| qA V V V <| qN <| zI ?_
  exact zR (.inr V) Tryz.results211 V (.of_eq (by rw [isClock_end (fun j hj => hall j (by omega)), zF])) (.bool _) Vv
theorem tEqual_spec (a b : List Tk) (S : MS) : MCalls Tryz.prog 176 [.lst none 2 (a.map encT), .lst none 2 (b.map encT)] S fun v σ' => v = .bool (decide (a = b)) ∧ σ' = S := by
 refine zM Tryz.func176 V Tryz.ntmps176 (zA V) ?_
 refine zL3 (t := 0) V fun hlen => ?_
 rw [zF] at hlen
 refine zB <| qR V <| qA V V V <| qN <| zB <| zB <| qR V <| qM V V V <| qE V V zA0 V <| qM V V V <| qE V V zA0 V <| qC V V V V V <| qN ?_
 refine zJ V (fun h10 => ?_) (fun h10 => ?_)
 ·
  refine zB <| qR V <| qA V V V <| qN <| zI ?_
  exact zR (.inr V) Tryz.results176 V (.of_eq (by congr 1; symm; rw [decide_eq_false_iff_not]; intro e; subst e; simp at h10)) (.bool _) Vv
 ·
  have hab : a.length = b.length := by simp at h10; omega
  refine zQ <| zB <| zB <| qR V <| qM V V V <| qE V V zA0 V <| qM V V V <| qN <| zX ?_
  refine zS1 (α := Nat) [(0, _), (1, _), (12, _)] (fun i => [(13, .int .i64 (i : Int))]) (fun i => []) (fun i => i ≤ a.length ∧ a.take i = b.take i) (fun i => a.length - i) (0) (.keep V (.keep V (.keep V (.nil)))) (.keep V (.nil)) (⟨by omega, rfl⟩) (V) ?_
  rintro i ⟨hi, heq⟩
  refine zB <| qR V <| qC V V V V V <| qN <| zB ?_
  refine zJ V (fun h14 => ?_) (fun h14 => ?_)
  ·
   have hlt : i < a.length := by simpa using h14
   obtain ⟨x, hs⟩ : ∃ q_, a[i]? = some q_ := ⟨_, zC hlt⟩
   obtain ⟨y, hs2⟩ : ∃ s, b[i]? = some s := ⟨_, zC (by omega)⟩
   refine zQ <| zB <| zX <| zB <| qR V <| qM V V V <| qA V V V <| qN <| zB ?_
   refine zX0 [] [_] mo (by decide) V V V V ?_
   refine dO V V V (zY V V Vv) <| dO V V V (zY V V Vv) <| dO V V V (zK V zA0 sz262 (by decide) V V V (zE1 hs) Vv) ?_
   refine dO V V V (zO V V ta262 V Vv) <| dO V V V (zY V V Vv) <| dO V V V (zY V V Vv) <| dO V V V (zK V zA0 sz262 (by decide) V V V (zE1 hs2) Vv) ?_
   refine dO V V V (zO V V ta262 V Vv) <| zU V V (.cons (op_eqstruct V (by kernel_rfl) V V V (.inr Vv) Vv) .nil) ?_
   refine zP0 ?_
   refine zJ V (fun h24 => ?_) (fun h24 => ?_)
   ·
    refine zB <| qR V <| qA V V V <| qN <| zI ?_
    exact zR (.inr V) Tryz.results176 V (.of_eq (by congr 1; symm; rw [decide_eq_false_iff_not]; intro e; subst e; rw [hs2] at hs; injection hs with hs; subst hs; simp at h24)) (.bool _) Vv
   ·
    refine zQ <| qR V <| qO V <| zT0 V V V V <| qM V V V <| qN ?_
    refine ⟨i + 1, by omega, ⟨by omega, ?_⟩, rfl, (.keep V (.keep V (.keep V (.nil)))), (.eq V (zQ1 hlt hlen) (.nil))⟩
    rw [List.take_add_one, List.take_add_one, hs, hs2, heq]
    obtain ⟨x1, x2⟩ := x; obtain ⟨y1, y2⟩ := y
    simp at h24
    rw [h24.1, h24.2]
  ·
   have hge : i = a.length := by simp at h14; omega
   refine zM1 <| zB <| qR V <| qA V V V <| qN <| zI ?_
   exact zR (.inr V) Tryz.results176 V (.of_eq (by congr 1; symm; rw [decide_eq_true_iff]; rw [hge, List.take_length, hab, List.take_length] at heq; exact heq)) (.bool _) Vv
theorem clkSame_spec (a b : List Tk) (S : MS) : MCalls Tryz.prog 135 [.lst none 2 (a.map encT), .lst none 2 (b.map encT)] S fun v σ' => v = .bool (decide (a = b)) ∧ σ' = S := by
 refine zM Tryz.func135 V Tryz.ntmps135 (zA V) ?_
 refine zB <| qR V <| qA V V V <| qN <| zB <| qR V <| qM V V V <| qM V V V ?_
 refine qX V V V V co176 (tEqual_spec a b _) ?_
 refine qA V V V <| qN <| zI ?_
 exact zR (.inr V) Tryz.results135 V (.of_eq (V)) (.bool _) Vv
theorem isNaN_spec (m : Int) (S : MS) : MCalls Tryz.prog 214 [.int .i64 m] S fun v σ' => v = .bool false ∧ σ' = S := by
 refine zM Tryz.func214 V Tryz.ntmps214 (zA V) ?_
 refine zB <| qR V <| qA V V V <| qN <| zB <| qR V <| qM V V V <| qM V V V <| qC V V V V V <| qA V V V <| qN <| zI ?_
 exact zR (.inr V) Tryz.results214 V (.of_eq (by simp)) (.bool _) Vv
theorem compare_spec (m n : Int) (S : MS) : MCalls Tryz.prog 166 [.int .i64 m, .int .i64 n] S fun v σ' => v = .int .i64 (cmpI m n) ∧ σ' = S := by
 refine zM Tryz.func166 V Tryz.ntmps166 (zA V) ?_
 refine zB <| qR V <| qA V V V <| qN <| zB <| qR V <| qM V V V ?_
 refine qX V V V V co214 (isNaN_spec m _) ?_
 refine qA V V V <| qN <| zB <| qR V <| qM V V V ?_
 refine qX V V V V co214 (isNaN_spec n _) ?_
 refine qA V V V <| qN <| zB <| zB <| qR V <| qM V V V <| qN <| zL V (V) <| zQ <| zB <| zB <| qR V <| qM V V V <| qN <| zL V (V) <| zQ <| zB <| zB <| qR V <| qM V V V <| qM V V V <| qC V V V V V <| qN ?_
 refine zJ V (fun h16 => ?_) (fun h16 => ?_)
 ·
  refine zB <| qR V <| qA V V V <| qN <| zI ?_
  exact zR (.inr V) Tryz.results166 V (.of_eq (by simp only [decide_eq_true_eq] at h16; rw [cmpI, if_pos h16])) (.int _ _) Vv
 ·
  refine zQ <| zB <| zB <| qR V <| qM V V V <| qM V V V <| qC V V V V V <| qN ?_
  refine zJ V (fun h19 => ?_) (fun h19 => ?_)
  ·
   refine zB <| qR V <| qA V V V <| qN <| zI ?_
   exact zR (.inr V) Tryz.results166 V (.of_eq (by simp only [decide_eq_true_eq, decide_eq_false_iff_not] at h16 h19; rw [cmpI, if_neg h16, if_pos h19])) (.int _ _) Vv
  ·
   refine zQ <| zB <| qR V <| qA V V V <| qN <| zI ?_
   exact zR (.inr V) Tryz.results166 V (.of_eq (by simp only [decide_eq_true_eq, decide_eq_false_iff_not] at h16 h19; rw [cmpI, if_neg h16, if_neg h19])) (.int _ _) Vv
theorem byWho_spec (x y : Tk) (S : MS) : MCalls Tryz.prog 300 [encT x, encT y] S fun v σ' => v = .int .i64 (cmpI x.1 y.1) ∧ σ' = S := by
 refine zM Tryz.func300 V Tryz.ntmps300 (zA V) ?_
 refine zB <| qR V <| qB V V V V V <| qB V V V V V <| qA V V V <| qN <| zB <| qR V <| qF V V V zB6 <| qL V V V V ta3 V <| qF V V V zB6 <| qL V V V V ta3 V ?_
 refine qX V V V V co166 (compare_spec x.1 y.1 _) ?_
 refine qA V V V <| qN <| zI ?_
 exact zR (.inr V) Tryz.results300 V (.of_eq (V)) (.int _ _) Vv
theorem join1_spec (x y : Tk) (S : MS) : MCalls Tryz.prog 301 [encT x, encT y] S fun v σ' => v = encT (bothT x y) ∧ σ' = S := by
 refine zM Tryz.func301 V Tryz.ntmps301 (zA V) ?_
 refine zB <| qR V <| qB V V V V V <| qB V V V V V <| qO V <| zN0 V zm262 V V <| qN <| zB <| qR V <| qF V V V zB6 <| qL V V V V ta3 V <| qF V V V fo262_1 <| qL V V V V ta22 V <| qF V V V fo262_1 <| qL V V V V ta22 V <| qO V <| op_max2 V V V <| qO V <| zA1 V Tryz.underlying262 zm262 (.cons zB6 sz3 V V (zA V) (.cons fo262_1 sz22 V V (zA V) .nil)) (by kernel_rfl) ?_
 refine qO V <| zC0 V V V V sz262 V V (zA V) V <| qN <| zI ?_
 exact zK2 (.inr V) Tryz.results301 V V ta262 V (.refl _) (cl_encT _ (bothT x y)) Vv
theorem merge_spec (a b : List Tk) (cmp : Tk → Tk → Int) (bo : Tk → Tk → Tk) (kc kb : FuncId) (hab : a.length + b.length ≤ 1000000) (hco : CallOk Tryz.prog kc) (hcb : CallOk Tryz.prog kb) (hp : ∀ (x y : Tk) (X : MS), MCalls Tryz.prog kc [encT x, encT y] X fun v σ' => v = .int .i64 (cmp x y) ∧ σ' = X) (hq : ∀ (x y : Tk) (X : MS), MCalls Tryz.prog kb [encT x, encT y] X fun v σ' => v = encT (bo x y) ∧ σ' = X) (S : MS) : MCalls Tryz.prog 299 [.lst none 2 (a.map encT), .lst none 2 (b.map encT), .fn (.func kc) [] [], .fn (.func kb) [] []] S fun v σ' => v = .lst none 2 ((mergeF cmp bo a b).map encT) ∧ σ' = S := by
 refine zM Tryz.func299 V Tryz.ntmps299 (zA V) ?_
 refine zB <| qR V <| qA V V V <| qN <| zB <| qR V <| qA V V V <| qN <| zB <| zX <| mwp_row0 9 262 2 V (Nat.le_refl _) V V ?_
 refine zS1 (α := List Tk × List Tk × List Tk) [(2, _), (3, _)] (fun x => [(0, .lst none 2 (x.1.map encT)), (1, .lst none 2 (x.2.1.map encT)), (9, .lst (some (S.length + 0)) 2 (x.2.2.map encT))]) (fun x => [.row 262 2 x.2.2.length]) (fun x => x.2.2.length + x.1.length + x.2.1.length ≤ a.length + b.length ∧ x.2.2 ++ mergeF cmp bo x.1 x.2.1 = mergeF cmp bo a b) (fun x => x.1.length + x.2.1.length) (⟨a, b, []⟩) (.keep V (.keep V (.nil))) (.keep V (.keep V (.keep V (.nil)))) (⟨by simp, by simp⟩) (V) ?_
 rintro ⟨a', b', out⟩ ⟨hl, he⟩
 dsimp only at hl he ⊢
 refine zB <| zB ?_
 rcases a' with _ | ⟨x, a'⟩
 ·
  refine qR V <| qM V V V <| qE V V zA0 V <| qC V V V V (gtr_nil) <| qM V V V <| qS V <| qS V <| qS V <| qP V V V V <| qN <| zL V (V) <| zM1 <| zB <| qR V <| qM V V V <| qM V V V <| qO V <| zN3 V zA0 el262 V V V (by simp) (by simp only [zF0, List.length_nil, zF, zG] at hl ⊢; omega) (by simp only [zF0, List.length_nil, zF, zG] at hl ⊢; omega) V ?_
  refine qM V V V <| qO V <| zN3 V zA0 el262 V V V (by simp) (by simp only [zF0, List.length_nil, zF, zG] at hl ⊢; omega) (by simp only [zF0, List.length_nil, zF, zG] at hl ⊢; omega) V ?_
  refine qA V V V <| qN <| zI ?_
  exact zR (.inr V) Tryz.results299 V (Sub.trans (.view _ _ _) (.of_eq (by rw [← he]; simp [nil_merge]))) (cl_clock _ _) Vv
 ·
  rcases b' with _ | ⟨y, b'⟩
  ·
   refine qR V <| qM V V V <| qE V V zA0 V <| qC V V V V (gtr_cons) <| qM V V V <| qM V V V <| qE V V zA0 V <| qC V V V V (gtr_nil) <| qP V V V V <| qN <| zL V (V) <| zM1 <| zB <| qR V <| qM V V V <| qM V V V <| qO V <| zN3 V zA0 el262 V V V (by simp) (by simp only [zF0, List.length_nil, zF, zG] at hl ⊢; omega) (by simp only [zF0, List.length_nil, zF, zG] at hl ⊢; omega) V ?_
   refine qM V V V <| qO V <| zN3 V zA0 el262 V V V (by simp) (by simp only [zF0, List.length_nil, zF, zG] at hl ⊢; omega) (by simp only [zF0, List.length_nil, zF, zG] at hl ⊢; omega) V ?_
   refine qA V V V <| qN <| zI ?_
   exact zR (.inr V) Tryz.results299 V (Sub.trans (.view _ _ _) (.of_eq (by rw [← he]; simp [merge_nil]))) (cl_clock _ _) Vv
  ·
   simp only [zF0] at hl
   refine qR V <| qM V V V <| qE V V zA0 V <| qC V V V V (gtr_cons) <| qM V V V <| qM V V V <| qE V V zA0 V <| qC V V V V (gtr_cons) <| qP V V V V <| qN <| zT V (V) <| zQ <| zX <| zB ?_
   refine zX0 [] [_] mo (by decide) V V V V ?_
   refine dO V V V (zY V V Vv) <| dO V V V (zY V V Vv) <| dO V V V (zK V zA0 sz262 (by decide) V V V V Vv) ?_
   refine dO V V V (zO V V ta262 V Vv) <| dO V V V (zY V V Vv) <| dO V V V (zK V zA0 sz262 (by decide) V V V V Vv) ?_
   refine dO V V V (zO V V ta262 V Vv) <| zU V V (.cons (zD1 V V V hco (hp x y _)) .nil) <| dO V V V (zF1 V V Vv) <| zP0 <| zX <| zB <| qR V <| qM V V V <| qC V V V V V <| qA V V V <| qN ?_
   refine zJ V (fun h42 => ?_) (fun h42 => ?_)
   ·
    refine zX0 [5] [_, S ++ [.row 262 2 (out.length + 1)]] mo (by decide) V V V V ?_
    refine dO V V V (zY V V Vv) <| zU V V (.cons (zY V V Vv) (.cons (zY V V Vv) (.nil))) <| zU V V (.cons (zK V zA0 sz262 (by decide) V V V V Vv) (.cons (zK V zA0 sz262 (by decide) V V V V Vv) (.nil))) ?_
    refine zU V V (.cons (zO V V ta262 V Vv) (.cons (zO V V ta262 V Vv) (.nil))) <| dO V V V (zJ1 V zA0 el262 V V (by decide) (by decide) V V Vv) ?_
    refine zB1 V V V V (zN3 V zA0 el262 V V V (by simp) (by simp only [zF0, List.length_nil, zF, zG] at hl ⊢; omega) (by simp only [zF0, List.length_nil, zF, zG] at hl ⊢; omega) V Vv) ?_
    refine zU V V (.cons (zY V V Vv) (.cons (zY V V Vv) (.nil))) <| zU V V (.cons (zL2 V zA0 sz262 V (.some V V) .none (by simp) (Nat.le_refl _) Vv) (.cons (zL2 V zA0 sz262 V (.some V V) .none (by simp) (Nat.le_refl _) Vv) (.nil))) ?_
    refine dO V V V (zF1 V V Vv) <| dO V V V (zF1 V V Vv) <| zP0 ?_
    simp only [decide_eq_true_eq] at h42
    refine ⟨⟨a', y :: b', out ++ [x]⟩, by simp only [zF0, zG, List.length_nil]; omega, ⟨by simp only [zF0, zG, List.length_nil]; omega, by rw [← he, merge_cons, if_pos h42]; simp⟩, by simp, (.keep V (.keep V (.nil))), (.eq V (by simp [List.take_of_length_le]) (.keep V (.eq V (by rw [List.map_append]; rfl) (.nil))))⟩
   ·
    refine zB <| qR V <| qM V V V <| qC V V V V V <| qA V V V <| qN ?_
    refine zJ V (fun h53 => ?_) (fun h53 => ?_)
    ·
     refine zX0 [5] [_, S ++ [.row 262 2 (out.length + 1)]] mo (by decide) V V V V ?_
     refine dO V V V (zY V V Vv) <| zU V V (.cons (zY V V Vv) (.cons (zY V V Vv) (.nil))) <| zU V V (.cons (zK V zA0 sz262 (by decide) V V V V Vv) (.cons (zK V zA0 sz262 (by decide) V V V V Vv) (.nil))) ?_
     refine zU V V (.cons (zO V V ta262 V Vv) (.cons (zO V V ta262 V Vv) (.nil))) <| dO V V V (zJ1 V zA0 el262 V V (by decide) (by decide) V V Vv) ?_
     refine zB1 V V V V (zN3 V zA0 el262 V V V (by simp) (by simp only [zF0, List.length_nil, zF, zG] at hl ⊢; omega) (by simp only [zF0, List.length_nil, zF, zG] at hl ⊢; omega) V Vv) ?_
     refine zU V V (.cons (zY V V Vv) (.cons (zY V V Vv) (.nil))) <| zU V V (.cons (zL2 V zA0 sz262 V (.some V V) .none (by simp) (Nat.le_refl _) Vv) (.cons (zL2 V zA0 sz262 V (.some V V) .none (by simp) (Nat.le_refl _) Vv) (.nil))) ?_
     refine dO V V V (zF1 V V Vv) <| dO V V V (zF1 V V Vv) <| zP0 ?_
     simp only [decide_eq_true_eq, decide_eq_false_iff_not] at h42 h53
     refine ⟨⟨x :: a', b', out ++ [y]⟩, by simp only [zF0, zG, List.length_nil]; omega, ⟨by simp only [zF0, zG, List.length_nil]; omega, by rw [← he, merge_cons, if_neg h42, if_pos h53]; simp⟩, by simp, (.keep V (.keep V (.nil))), (.keep V (.eq V (by simp [List.take_of_length_le]) (.eq V (by rw [List.map_append]; rfl) (.nil))))⟩
    ·
     refine zX0 [10] [_, S ++ [.row 262 2 (out.length + 1)]] mo (by decide) V V V V ?_
     refine dO V V V (zY V V Vv) <| zU V V (.cons (zY V V Vv) (.cons (zY V V Vv) (.nil))) <| zU V V (.cons (zY V V Vv) (.cons (zY V V Vv) (.nil))) <| zU V V (.cons (zK V zA0 sz262 (by decide) V V V V Vv) (.cons (zK V zA0 sz262 (by decide) V V V V Vv) (.nil))) ?_
     refine zU V V (.cons (zO V V ta262 V Vv) (.cons (zO V V ta262 V Vv) (.nil))) <| zU V V (.cons (zY V V Vv) (.cons (zY V V Vv) (.nil))) <| zU V V (.cons (zK V zA0 sz262 (by decide) V V V V Vv) (.cons (zK V zA0 sz262 (by decide) V V V V Vv) (.nil))) ?_
     refine zU V V (.cons (zO V V ta262 V Vv) (.cons (zO V V ta262 V Vv) (.nil))) <| zU V V (.cons (zD1 V V V hcb (hq x y _)) .nil) <| dO V V V (zJ1 V zA0 el262 V V (by decide) (by decide) V V Vv) ?_
     refine zB1 V V V V (zN3 V zA0 el262 V V V (by simp) (by simp only [zF0, List.length_nil, zF, zG] at hl ⊢; omega) (by simp only [zF0, List.length_nil, zF, zG] at hl ⊢; omega) V Vv) ?_
     refine zU V V (.cons (zY V V Vv) (.cons (zY V V Vv) (.nil))) <| zU V V (.cons (zL2 V zA0 sz262 V (.some V V) .none (by simp) (Nat.le_refl _) Vv) (.cons (zL2 V zA0 sz262 V (.some V V) .none (by simp) (Nat.le_refl _) Vv) (.nil))) ?_
     refine zU V V (.cons (zY V V Vv) (.cons (zY V V Vv) (.nil))) <| zU V V (.cons (zL2 V zA0 sz262 V (.some V V) .none (by simp) (Nat.le_refl _) Vv) (.cons (zL2 V zA0 sz262 V (.some V V) .none (by simp) (Nat.le_refl _) Vv) (.nil))) ?_
     refine dO V V V (zF1 V V Vv) <| dO V V V (zF1 V V Vv) <| dO V V V (zF1 V V Vv) <| zP0 ?_
     simp only [decide_eq_false_iff_not] at h42 h53
     refine ⟨⟨a', b', out ++ [bo x y]⟩, by simp only [zF0, zG, List.length_nil]; omega, ⟨by simp only [zF0, zG, List.length_nil]; omega, by rw [← he, merge_cons, if_neg h42, if_neg h53]; simp⟩, by simp, (.keep V (.keep V (.nil))), (.eq V (by simp [List.take_of_length_le]) (.eq V (by simp [List.take_of_length_le]) (.eq V (by rw [List.map_append]; rfl) (.nil))))⟩
theorem clkJoin_spec (a b : List Tk) (hab : a.length + b.length ≤ 1000000) (S : MS) : MCalls Tryz.prog 272 [.lst none 2 (a.map encT), .lst none 2 (b.map encT)] S fun v σ' => v = .lst none 2 ((joinF a b).map encT) ∧ σ' = S := by
 refine zM Tryz.func272 V Tryz.ntmps272 (zA V) ?_
 refine zB <| qR V <| qA V V V <| qN <| zB <| qR V <| qM V V V <| qM V V V ?_
 refine qX V V V V co299 (merge_spec a b (fun x y => cmpI x.1 y.1) bothT 300 301 hab co300 co301 byWho_spec join1_spec _) ?_
 refine qA V V V <| qN <| zI ?_
 exact zR (.inr V) Tryz.results272 V (.of_eq (V)) (cl_clock _ _) Vv
theorem clkCmp_spec (a b : List Tk) (hab : a.length + b.length ≤ 1000000) (S : MS) : MCalls Tryz.prog 252 [.lst none 2 (a.map encT), .lst none 2 (b.map encT)] S fun v σ' => v = .int .i64 (cmpF a b) ∧ σ' = S := by
 refine zM Tryz.func252 V Tryz.ntmps252 (zA V) ?_
 refine zB <| qR V <| qA V V V <| qN <| zB <| qR V <| qM V V V <| qM V V V ?_
 refine qX V V V V co272 (clkJoin_spec a b hab _) ?_
 refine qA V V V <| qN <| zB <| zX <| zB <| qR V <| qM V V V <| qM V V V ?_
 refine qX V V V V co135 (clkSame_spec a b _) ?_
 refine qA V V V <| qN ?_
 refine zJ V (fun h9 => ?_) (fun h9 => ?_)
 ·
  refine zB <| qR V <| qA V V V <| qN <| zI ?_
  exact zR (.inr V) Tryz.results252 V (.of_eq (by unfold cmpF; simp_all)) (.int _ _) Vv
 ·
  refine zB <| qR V <| qM V V V <| qM V V V ?_
  refine qX V V V V co135 (clkSame_spec (joinF a b) b _) ?_
  refine qA V V V <| qN ?_
  refine zJ V (fun h13 => ?_) (fun h13 => ?_)
  ·
   refine zB <| qR V <| qA V V V <| qN <| zI ?_
   exact zR (.inr V) Tryz.results252 V (.of_eq (by unfold cmpF; simp_all)) (.int _ _) Vv
  ·
   refine zB <| qR V <| qM V V V <| qM V V V ?_
   refine qX V V V V co135 (clkSame_spec (joinF a b) a _) ?_
   refine qA V V V <| qN ?_
   refine zJ V (fun h17 => ?_) (fun h17 => ?_)
   ·
    refine zB <| qR V <| qA V V V <| qN <| zI ?_
    exact zR (.inr V) Tryz.results252 V (.of_eq (by unfold cmpF; simp_all)) (.int _ _) Vv
   ·
    refine zQ <| zB <| qR V <| qA V V V <| qN <| zI ?_
    exact zR (.inr V) Tryz.results252 V (.of_eq (by unfold cmpF; simp_all)) (.int _ _) Vv
theorem not_dec {p : Prop} [Decidable p] (h : (!decide p) = false) : p := by simpa using h
theorem two_of {ins : List Sch} (h : partsF 5 = (ins.length : Int)) : ∃ x y, ins = [x, y] := by
 have h2 : ins.length = 2 := by
  have : partsF 5 = 2 := by decide
  omega
 match ins, h2 with
 | [x, y], _ => exact ⟨x, y, rfl⟩
theorem _root_.zB0 : type_of% @Tryz.underlying23 := @Tryz.underlying23
theorem xEqual_spec (a b : List Bs) (S : MS) : MCalls Tryz.prog 133 [.lst none 1 (a.map encX), .lst none 1 (b.map encX)] S fun v σ' => v = .bool (decide (a = b)) ∧ σ' = S := by
 refine zM Tryz.func133 V Tryz.ntmps133 (zA V) ?_
 refine zL3 (t := 0) V fun hlen => ?_
 rw [zF] at hlen
 refine zB <| qR V <| qA V V V <| qN <| zB <| zB <| qR V <| qM V V V <| qE V V zB0 V <| qM V V V <| qE V V zB0 V <| qC V V V V V <| qN ?_
 refine zJ V (fun h10 => ?_) (fun h10 => ?_)
 ·
  refine zB <| qR V <| qA V V V <| qN <| zI ?_
  exact zR (.inr V) Tryz.results133 V (.of_eq (by congr 1; symm; rw [decide_eq_false_iff_not]; intro e; subst e; simp at h10)) (.bool _) Vv
 ·
  have hab : a.length = b.length := by simp at h10; omega
  refine zQ <| zB <| zB <| qR V <| qM V V V <| qE V V zB0 V <| qM V V V <| qN <| zX ?_
  refine zS1 (α := Nat) [(0, _), (1, _), (12, _)] (fun i => [(13, .int .i64 (i : Int))]) (fun i => []) (fun i => i ≤ a.length ∧ a.take i = b.take i) (fun i => a.length - i) (0) (.keep V (.keep V (.keep V (.nil)))) (.keep V (.nil)) (⟨by omega, rfl⟩) (V) ?_
  rintro i ⟨hi, heq⟩
  refine zB <| qR V <| qC V V V V V <| qN <| zB ?_
  refine zJ V (fun h14 => ?_) (fun h14 => ?_)
  ·
   have hlt : i < a.length := by simpa using h14
   obtain ⟨x, hs⟩ : ∃ q_, a[i]? = some q_ := ⟨_, zC hlt⟩
   obtain ⟨y, hs2⟩ : ∃ s, b[i]? = some s := ⟨_, zC (by omega)⟩
   refine zQ <| zB <| zX <| zB <| qR V <| qM V V V <| qA V V V <| qN <| zB ?_
   refine zX0 [] [_] mo (by decide) V V V V ?_
   refine dO V V V (zY V V Vv) <| dO V V V (zY V V Vv) <| dO V V V (zK V zB0 sz9 (by decide) V V V (zE1 hs) Vv) ?_
   refine dO V V V (zO V V ta9 V Vv) <| dO V V V (zY V V Vv) <| dO V V V (zY V V Vv) <| dO V V V (zK V zB0 sz9 (by decide) V V V (zE1 hs2) Vv) ?_
   refine dO V V V (zO V V ta9 V Vv) <| dO V V V (zS2 V V V V Vv) <| zP0 ?_
   refine zJ V (fun h24 => ?_) (fun h24 => ?_)
   ·
    refine zB <| qR V <| qA V V V <| qN <| zI ?_
    exact zR (.inr V) Tryz.results133 V (.of_eq (by congr 1; symm; rw [decide_eq_false_iff_not]; intro e; subst e; rw [hs2] at hs; injection hs with hs; subst hs; simp at h24)) (.bool _) Vv
   ·
    refine zQ <| qR V <| qO V <| zT0 V V V V <| qM V V V <| qN ?_
    refine ⟨i + 1, by omega, ⟨by omega, ?_⟩, rfl, (.keep V (.keep V (.keep V (.nil)))), (.eq V (zQ1 hlt hlen) (.nil))⟩
    rw [List.take_add_one, List.take_add_one, hs, hs2, heq]
    simp at h24
    rw [h24]
  ·
   have hge : i = a.length := by simp at h14; omega
   refine zM1 <| zB <| qR V <| qA V V V <| qN <| zI ?_
   exact zR (.inr V) Tryz.results133 V (.of_eq (by congr 1; symm; rw [decide_eq_true_iff]; rw [hge, List.take_length, hab, List.take_length] at heq; exact heq)) (.bool _) Vv
theorem _root_.zE0 : type_of% @Tryz.underlying24 := @Tryz.underlying24
theorem cEqualF_spec (a b : List (List Tk)) (S : MS) : MCalls Tryz.prog 175 [.lst none 1 (a.map encC), .lst none 1 (b.map encC), .fn (.func 135) [] []] S fun v σ' => v = .bool (decide (a = b)) ∧ σ' = S := by
 refine zM Tryz.func175 V Tryz.ntmps175 (zA V) ?_
 refine zL3 (t := 0) V fun hlen => ?_
 rw [zF] at hlen
 refine zB <| qR V <| qA V V V <| qN <| zB <| zB <| qR V <| qM V V V <| qE V V zE0 V <| qM V V V <| qE V V zE0 V <| qC V V V V V <| qN ?_
 refine zJ V (fun h14 => ?_) (fun h14 => ?_)
 ·
  refine zB <| qR V <| qA V V V <| qN <| zI ?_
  exact zR (.inr V) Tryz.results175 V (.of_eq (by congr 1; symm; rw [decide_eq_false_iff_not]; intro e; subst e; simp at h14)) (.bool _) Vv
 ·
  have hab : a.length = b.length := by simp at h14; omega
  refine zQ <| zB <| zB <| qR V <| qM V V V <| qE V V zE0 V <| qM V V V <| qN <| zX ?_
  refine zS1 (α := Nat) [(1, _), (2, _), (15, _), (16, _)] (fun i => [(17, .int .i64 (i : Int))]) (fun i => []) (fun i => i ≤ a.length ∧ a.take i = b.take i) (fun i => a.length - i) (0) (.keep V (.keep V (.keep V (.keep V (.nil))))) (.keep V (.nil)) (⟨by omega, rfl⟩) (V) ?_
  rintro i ⟨hi, heq⟩
  refine zB <| qR V <| qC V V V V V <| qN <| zB ?_
  refine zJ V (fun h18 => ?_) (fun h18 => ?_)
  ·
   have hlt : i < a.length := by simpa using h18
   obtain ⟨x, hs⟩ : ∃ q_, a[i]? = some q_ := ⟨_, zC hlt⟩
   obtain ⟨y, hs2⟩ : ∃ s, b[i]? = some s := ⟨_, zC (by omega)⟩
   refine zQ <| zB <| zX <| zB <| qR V <| qM V V V <| qO V <| zK V zE0 sz202 (by decide) V V V (zE1 hs) ?_
   refine qO V <| zO V V ta202 V <| qA V V V <| qA V V V <| qN <| zB <| qR V <| qM V V V <| qM V V V <| qO V <| zK V zE0 sz202 (by decide) V V V (zE1 hs2) ?_
   refine qO V <| zO V V ta202 V <| qA V V V <| qN <| zB <| qR V <| qM V V V <| qM V V V <| qM V V V ?_
   refine qX V V V V co135 (clkSame_spec x y _) ?_
   refine qO V <| zC1 V V <| qN ?_
   refine zJ V (fun h30 => ?_) (fun h30 => ?_)
   ·
    refine zB <| qR V <| qA V V V <| qN <| zI ?_
    exact zR (.inr V) Tryz.results175 V (.of_eq (by congr 1; symm; rw [decide_eq_false_iff_not]; intro e; subst e; rw [hs2] at hs; injection hs with hs; rw [hs] at h30; simp at h30)) (.bool _) Vv
   ·
    refine zQ <| qR V <| qO V <| zT0 V V V V <| qM V V V <| qN ?_
    refine ⟨i + 1, by omega, ⟨by omega, ?_⟩, rfl, (.keep V (.keep V (.keep V (.keep V (.nil))))), (.eq V (zQ1 hlt hlen) (.nil))⟩
    rw [List.take_add_one, List.take_add_one, hs, hs2, heq, not_dec h30]
  ·
   have hge : i = a.length := by simp at h18; omega
   refine zM1 <| zB <| qR V <| qA V V V <| qN <| zI ?_
   exact zR (.inr V) Tryz.results175 V (.of_eq (by congr 1; symm; rw [decide_eq_true_iff]; rw [hge, List.take_length, hab, List.take_length] at heq; exact heq)) (.bool _) Vv
theorem cSame_spec (a b : List (List Tk)) (S : MS) : MCalls Tryz.prog 134 [.lst none 1 (a.map encC), .lst none 1 (b.map encC), .fn (.func 135) [] []] S fun v σ' => v = .bool (decide (a = b)) ∧ σ' = S := by
 refine zM Tryz.func134 V Tryz.ntmps134 (zA V) ?_
 refine zB <| qR V <| qA V V V <| qN <| zB <| qR V <| qM V V V <| qM V V V <| qM V V V ?_
 refine qX V V V V co175 (cEqualF_spec a b _) ?_
 refine qA V V V <| qN <| zI ?_
 exact zR (.inr V) Tryz.results134 V (.of_eq (V)) (.bool _) Vv
theorem _root_.zI0 : type_of% @Tryz.underlying25 := @Tryz.underlying25
theorem vEqualF_spec (a b : List Val) (ih : ∀ x ∈ a, ∀ (y : Val) (S : MS), MCalls Tryz.prog 68 [encV x, encV y] S fun v σ' => v = .bool (decide (x = y)) ∧ σ' = S) (S : MS) : MCalls Tryz.prog 177 [.lst none 5 (encVs a), .lst none 5 (encVs b), .fn (.func 68) [] []] S fun v σ' => v = .bool (decide (a = b)) ∧ σ' = S := by
 refine zM Tryz.func177 V Tryz.ntmps177 (zA V) ?_
 refine zL3 (t := 0) V fun hlen => ?_
 rw [zU0] at hlen
 refine zB <| qR V <| qA V V V <| qN <| zB <| zB <| qR V <| qM V V V <| qE V V zI0 V <| qM V V V <| qE V V zI0 V <| qC V V V V V <| qN ?_
 refine zJ V (fun h14 => ?_) (fun h14 => ?_)
 ·
  rw [zU0, zU0] at h14
  refine zB <| qR V <| qA V V V <| qN <| zI ?_
  exact zR (.inr V) Tryz.results177 V (.of_eq (by congr 1; symm; rw [decide_eq_false_iff_not]; intro e; subst e; simp at h14)) (.bool _) Vv
 ·
  rw [zU0, zU0] at h14
  have hab : a.length = b.length := by simp at h14; omega
  refine zQ <| zB <| zB <| qR V <| qM V V V <| qE V V zI0 V <| qM V V V <| qN <| zX ?_
  refine zD4 (α := Nat) [(1, _), (2, _), (15, _), (16, _)] (fun i => [(17, .int .i64 (i : Int))]) (fun i => []) (fun i => i ≤ a.length ∧ a.take i = b.take i) (fun i => a.length - i) (0) (Nat.le_refl _) (.keep V (.keep V (.keep V (.keep V (.nil))))) (.keep V (.nil)) (⟨by omega, rfl⟩) (V) ?_
  rintro i ⟨hi, heq⟩
  refine zB <| qR V <| qC V V V V V <| qN <| zB ?_
  refine zJ V (fun h18 => ?_) (fun h18 => ?_)
  ·
   rw [zU0] at h18
   have hlt : i < a.length := by simpa using h18
   obtain ⟨⟨n1, m1, s1, c1, w1⟩, hs⟩ : ∃ s, a[i]? = some s := ⟨_, zC hlt⟩
   obtain ⟨⟨n2, m2, s2, c2, w2⟩, hs2⟩ : ∃ s, b[i]? = some s := ⟨_, zC (by omega)⟩
   refine zQ <| zB <| zX <| zB <| qR V <| qM V V V <| qO V <| zK V zI0 sz27 (by decide) V V V (zK4 hs) ?_
   refine qO V <| zO V V ta27 V <| qO V <| zN0 V zm27 V V <| qA V V V <| qO V <| zC0 V V V V sz27 V V (zA V) V <| qN <| zB <| qR V <| qM V V V <| qM V V V <| qO V <| zK V zI0 sz27 (by decide) V V V (zK4 hs2) ?_
   refine qO V <| zO V V ta27 V <| qO V <| zN0 V zm27 V V <| qO V <| zC0 V V V V sz27 V V (zA V) V <| qN <| zB <| qR V <| qM V V V <| qL V V V V ta27 V <| qL V V V V ta27 V ?_
   refine qX V V V V co68 (ih _ (zW hs) (.mk n2 m2 s2 c2 w2) _) ?_
   refine qO V <| zC1 V V <| qN ?_
   refine zJ V (fun h30 => ?_) (fun h30 => ?_)
   ·
    refine zB <| qR V <| qA V V V <| qN <| zI ?_
    exact zR (.inr V) Tryz.results177 V (.of_eq (by congr 1; symm; rw [decide_eq_false_iff_not]; intro e; subst e; rw [hs2] at hs; injection hs with hs; rw [hs] at h30; simp at h30)) (.bool _) Vv
   ·
    refine zQ <| qR V <| qO V <| zT0 V V V V <| qM V V V <| qN ?_
    refine ⟨i + 1, _, by omega, ⟨by omega, ?_⟩, rfl, .nil, (.old V V (.old V V (.old V V (.old V V (.nil))))), (.new' V (zQ1 hlt hlen) (.int _ _) (.nil))⟩
    rw [List.take_add_one, List.take_add_one, hs, hs2, heq, not_dec h30]
  ·
   rw [zU0] at h18
   have hge : i = a.length := by simp at h18; omega
   refine zM1 <| zB <| qR V <| qA V V V <| qN <| zI ?_
   exact zR (.inr V) Tryz.results177 V (.of_eq (by congr 1; symm; rw [decide_eq_true_iff]; rw [hge, List.take_length, hab, List.take_length] at heq; exact heq)) (.bool _) Vv
theorem vsSame_spec (a b : List Val) (ih : ∀ x ∈ a, ∀ (y : Val) (S : MS), MCalls Tryz.prog 68 [encV x, encV y] S fun v σ' => v = .bool (decide (x = y)) ∧ σ' = S) (S : MS) : MCalls Tryz.prog 136 [.lst none 5 (encVs a), .lst none 5 (encVs b), .fn (.func 68) [] []] S fun v σ' => v = .bool (decide (a = b)) ∧ σ' = S := by
 refine zM Tryz.func136 V Tryz.ntmps136 (zA V) ?_
 refine zB <| qR V <| qA V V V <| qN <| zB <| qR V <| qM V V V <| qM V V V <| qM V V V ?_
 refine qX V V V V co177 (vEqualF_spec a b ih _) ?_
 refine qA V V V <| qN <| zI ?_
 exact zR (.inr V) Tryz.results136 V (.of_eq (V)) (.bool _) Vv
theorem vSame_spec (d : Nat) : ∀ (a b : Val), vdepth a ≤ d → ∀ S : MS, MCalls Tryz.prog 68 [encV a, encV b] S fun v σ' => v = .bool (decide (a = b)) ∧ σ' = S := by
 induction d with
 | zero => rintro ⟨n, m, s, c, w⟩ b h; simp [vdepth] at h
 | succ d ih =>
 rintro ⟨n, m, s, c, w⟩ ⟨n2, m2, s2, c2, w2⟩ hd S
 have hmem : ∀ x ∈ w, vdepth x ≤ d := fun x hx => by have := vdepth_mem hx; rw [vdepth] at hd; omega
 refine zM Tryz.func68 V Tryz.ntmps68 (zA V) ?_
 refine zB <| qR V <| qB V V V V V <| qB V V V V V <| qA V V V <| qN <| zB <| qR V <| qF V V V zC5 <| qL V V V V ta22 V <| qF V V V zC5 <| qL V V V V ta22 V <| qC V V V V V <| qM V V V ?_
 refine zZ (fun h10 => ?_) (fun h10 => ?_)
 ·
  refine qF V V V zI6 <| qL V V V V ta22 V <| qF V V V zI6 <| qL V V V V ta22 V <| qC V V V V V <| qP V V V V <| qM V V V ?_
  refine zZ (fun h17 => ?_) (fun h17 => ?_)
  ·
   refine qF V V V zC3 <| qL V V V V ta23 V <| qF V V V zC3 <| qL V V V V ta23 V ?_
   refine qX V V V V co133 (xEqual_spec s s2 _) ?_
   refine qP V V V V <| qM V V V ?_
   refine zZ (fun h24 => ?_) (fun h24 => ?_)
   ·
    refine qF V V V zT2 <| qL V V V V ta24 V <| qF V V V zT2 <| qL V V V V ta24 V ?_
    refine qX V V V V co134 (cSame_spec c c2 _) ?_
    refine qP V V V V <| qM V V V ?_
    refine zZ (fun h31 => ?_) (fun h31 => ?_)
    ·
     refine qF V V V zI2 <| qL V V V V ta25 V <| qF V V V zI2 <| qL V V V V ta25 V ?_
     refine qX V V V V co136 (vsSame_spec w w2 (fun x hx y S => ih x y (hmem x hx) S) _) ?_
     refine qP V V V V <| qA V V V <| qN <| zI ?_
     exact zR (.inr V) Tryz.results68 V (.of_eq (by congr 1; rw [zH]; simp_all)) (.bool _) Vv
    ·
     refine qT V V V V <| qS V <| qP V V V V <| qA V V V <| qN <| zI ?_
     exact zR (.inr V) Tryz.results68 V (.of_eq (by congr 1; rw [zH]; simp_all)) (.bool _) Vv
   ·
    refine qT V V V V <| qS V <| qP V V V V <| qM V V V <| qT V V V V <| qS V <| qP V V V V <| qA V V V <| qN <| zI ?_
    exact zR (.inr V) Tryz.results68 V (.of_eq (by congr 1; rw [zH]; simp_all)) (.bool _) Vv
  ·
   refine qT V V V V <| qS V <| qP V V V V <| qM V V V <| qT V V V V <| qS V <| qP V V V V <| qM V V V <| qT V V V V <| qS V <| qP V V V V <| qA V V V <| qN <| zI ?_
   exact zR (.inr V) Tryz.results68 V (.of_eq (by congr 1; rw [zH]; simp_all)) (.bool _) Vv
 ·
  refine qT V V V V <| qS V <| qP V V V V <| qM V V V <| qT V V V V <| qS V <| qP V V V V <| qM V V V <| qT V V V V <| qS V <| qP V V V V <| qM V V V <| qS V <| qS V <| qS V ?_
  refine qS V <| qS V <| qP V V V V <| qA V V V <| qN <| zI ?_
  exact zR (.inr V) Tryz.results68 V (.of_eq (by congr 1; rw [zH]; simp_all)) (.bool _) Vv
theorem valSame_spec (a b : Val) (S : MS) : MCalls Tryz.prog 68 [encV a, encV b] S fun v σ' => v = .bool (decide (a = b)) ∧ σ' = S := vSame_spec _ a b (Nat.le_refl _) S
theorem bottom_spec (d : Nat) : ∀ (s : Sch), isF d s = true → ∀ S : MS, MCalls Tryz.prog 144 [encS s] S fun v σ' => v = encV (bottomF s) ∧ σ' = S := by
 induction d with
 | zero => intro s h; simp [isF] at h
 | succ d ih =>
 rintro ⟨k, ins⟩ hd S
 rw [isF] at hd
 simp only [Bool.and_eq_true, List.all_eq_true, beq_iff_eq] at hd
 refine zM Tryz.func144 V Tryz.ntmps144 (zA V) ?_
 refine zB <| qR V <| qB V V V V V <| qO V <| zN0 V zm27 V V <| qN <| zB <| qR V <| qO V <| zN0 V zm27 V V <| qN <| zB <| zB <| qR V <| qF V V V zJ2 <| qL V V V V ta3 V <| qC V V V V V <| qN ?_
 refine zJ V (fun h6 => ?_) (fun h6 => ?_)
 ·
  have hk : k = 5 := by simpa using h6
  subst hk
  obtain ⟨⟨k1, i1⟩, ⟨k2, i2⟩, rfl⟩ := two_of hd.1
  obtain ⟨⟨n1, m1, s1, c1, w1⟩, e1⟩ : ∃ v, bottomF (.mk k1 i1) = v := ⟨_, rfl⟩
  obtain ⟨⟨n2, m2, s2, c2, w2⟩, e2⟩ : ∃ v, bottomF (.mk k2 i2) = v := ⟨_, rfl⟩
  have ih1 := ih (.mk k1 i1) (hd.2 _ (by simp))
  have ih2 := ih (.mk k2 i2) (hd.2 _ (by simp))
  simp only [e1] at ih1
  simp only [e2] at ih2
  have hbot : bottomF (.mk 5 [.mk k1 i1, .mk k2 i2]) = .mk 0 0 [] [] [.mk n1 m1 s1 c1 w1, .mk n2 m2 s2 c2 w2] := by rw [bottomF, if_pos rfl, bottomL, bottomL, bottomL, e1, e2]
  refine zX0 [12] [_, S ++ [.cells (encS (.mk 5 [.mk k1 i1, .mk k2 i2])).cells, .cells [.int .u64 0, .int .u64 0, .lst0, .lst0, .lst0], .cells [.int .u64 0, .int .u64 0, .lst0, .lst0, .lst none 5 [encV (.mk n1 m1 s1 c1 w1), encV (.mk n2 m2 s2 c2 w2)]]]] mo (by decide) V V V V ?_
  refine dO V V V (zE V V zS3 Vv) <| dO V V V (zO0 V V V ta51 V Vv) <| dO V V V (zK V zQ0 sz53 (by decide) V V V (show _ = some (encS (.mk k1 i1)) from V) Vv) ?_
  refine dO V V V (zO V V ta53 V Vv) <| zU V V (.cons (zD1 V V V co144 (ih1 _)) .nil) <| dO V V V (zE V V zS3 Vv) <| dO V V V (zO0 V V V ta51 V Vv) <| dO V V V (zK V zQ0 sz53 (by decide) V V V (show _ = some (encS (.mk k2 i2)) from V) Vv) ?_
  refine dO V V V (zO V V ta53 V Vv) <| zU V V (.cons (zD1 V V V co144 (ih2 _)) .nil) <| dO V V V (zJ1 V zI0 el27 V V (by decide) (by decide) V V Vv) ?_
  refine dO V V V (zE V V zI2 Vv) <| zB1 V V V V (zC0 V V V V sz25 V V (zA V) V Vv) <| zP0 <| zB <| qR V <| qL V V V V ta27 V <| qO V <| zC0 V V V V sz27 V V (zA V) V <| qN <| zI ?_
  rw [hbot]
  exact zK2 (.inr V) Tryz.results144 V V ta27 V (by first | exact (.agg (.cons (.refl _) (.cons (.refl _) (.cons (.nil _) (.cons (.nil _) (.cons (.nil _) .nil)))))) | exact (.agg (.cons (.refl _) (.cons (.refl _) (.cons (.nil _) (.cons (.nil _) (.cons (.refl _) .nil))))))) (zV1 _ _) Vv
 ·
  have hk : ¬ k = 5 := by simpa using h6
  have hbot : bottomF (.mk k ins) = noV := by simp [bottomF, hk]
  refine zQ <| zB <| qR V <| qL V V V V ta27 V <| qO V <| zC0 V V V V sz27 V V (zA V) V <| qN <| zI ?_
  rw [hbot]
  exact zK2 (.inr V) Tryz.results144 V V ta27 V (by first | exact (.agg (.cons (.refl _) (.cons (.refl _) (.cons (.nil _) (.cons (.nil _) (.cons (.nil _) .nil)))))) | exact (.agg (.cons (.refl _) (.cons (.refl _) (.cons (.nil _) (.cons (.nil _) (.cons (.refl _) .nil))))))) (zV1 _ _) Vv
theorem _root_.zU1 : type_of% @Tryz.underlying27 := @Tryz.underlying27
theorem Bottom_spec (s : Sch) (S : MS) : MCalls Tryz.prog 84 [encS s] S fun v σ' => v = encV (BottomF s) ∧ σ' = S := by
 obtain ⟨k, ins⟩ := s
 refine zM Tryz.func84 V Tryz.ntmps84 (zA V) ?_
 refine zB <| qR V <| qB V V V V V <| qO V <| zN0 V zm27 V V <| qN <| zB <| zB <| qR V <| qL V V V V ta53 V ?_
 refine qX V V V V co140 (Is_spec (.mk k ins) _) ?_
 refine qO V <| zC1 V V <| qN ?_
 refine zJ V (fun h5 => ?_) (fun h5 => ?_)
 ·
  have hb : BottomF (.mk k ins) = noV := by unfold BottomF; rw [if_neg (by simpa using h5)]
  refine zB <| qR V <| qO V <| zA1 V zU1 zm27 .nil (by kernel_rfl) ?_
  refine qO V <| zC0 V V V V sz27 V V (zA V) V <| qN <| zI ?_
  rw [hb]
  exact zK2 (y := encV (noV)) (.inr V) Tryz.results84 V V ta27 V (.agg (.cons (.refl _) (.cons (.refl _) (.cons (.nil _) (.cons (.nil _) (.cons (.nil _) .nil)))))) (zV1 _ _) Vv
 ·
  have his : isF 16 (.mk k ins) = true := by simpa using h5
  obtain ⟨⟨n1, m1, s1, c1, w1⟩, e1⟩ : ∃ v, bottomF (.mk k ins) = v := ⟨_, rfl⟩
  have bs := bottom_spec 16 (.mk k ins) his
  simp only [e1] at bs
  have hb : BottomF (.mk k ins) = .mk n1 m1 s1 c1 w1 := by unfold BottomF; rw [if_pos his, e1]
  refine zQ <| zB <| qR V <| qL V V V V ta53 V ?_
  refine qX V V V V co144 (bs _) ?_
  refine qO V <| zC0 V V V V sz27 V V (zA V) V <| qN <| zI ?_
  rw [hb]
  exact zK2 (y := encV (.mk n1 m1 s1 c1 w1)) (.inr V) Tryz.results84 V V ta27 V (.refl _) (zV1 _ _) Vv
theorem None_spec (s : Sch) (x : Val) (S : MS) : MCalls Tryz.prog 119 [encS s, encV x] S fun v σ' => v = .bool (noneF s x) ∧ σ' = S := by
 obtain ⟨k, ins⟩ := s
 obtain ⟨n, m, s, c, w⟩ := x
 refine zM Tryz.func119 V Tryz.ntmps119 (zA V) ?_
 refine zB <| qR V <| qB V V V V V <| qB V V V V V <| qA V V V <| qN <| zB ?_
 refine zX0 [] [_] mo (by decide) V V V V ?_
 refine dO V V V (zO0 V V V ta53 V Vv) <| zU V V (.cons (zD1 V V V co84 (Bottom_spec (.mk k ins) _)) .nil) <| dO V V V (zO0 V V V ta27 V Vv) <| zU V V (.cons (zD1 V V V co68 (valSame_spec (BottomF (.mk k ins)) (.mk n m s c w) _)) .nil) <| dO V V V (zF1 V V Vv) <| zP0 <| zI ?_
 exact zR (.inr V) Tryz.results119 V (.of_eq (V)) (.bool _) Vv
def pairsY (l : List Bs) : List (List MV) := (List.range (l.length - 1)).map fun i => [encX (l.getD i []), encX (l.getD (i + 1) [])]
theorem pairsY_len (l : List Bs) : (pairsY l).length = l.length - 1 := by simp [pairsY]
theorem pairsY_get {l : List Bs} {i : Nat} {a b : Bs} (ha : l[i]? = some a) (hb : l[i + 1]? = some b) : (pairsY l)[i]? = some [encX a, encX b] := by
 have h1 := (zD.1 hb).1
 unfold pairsY
 rw [zH0, List.getElem?_range (by omega)]
 simp [ha, hb]
theorem rises_iff : ∀ l : List Bs, risesF l = true ↔ ∀ i, i + 1 < l.length → Op.bytesLess (l.getD i []) (l.getD (i + 1) []) = true
 | [] => by simp [risesF]
 | [a] => by simp [risesF]
 | a :: b :: l => by
  rw [risesF, Bool.and_eq_true, rises_iff (b :: l)]
  constructor
  ·rintro ⟨h1, h2⟩ i hi
   cases i with
   | zero => simpa using h1
   | succ i => simpa using h2 i (by simpa using hi)
  ·intro h
   exact ⟨by simpa using h 0 (by simp), fun i hi => by simpa using h (i + 1) (by simpa using hi)⟩
def twoY (l : List (List Tk)) : List (List Tk × List Tk) := match l with
 | [] => []
 | a :: l => l.map (fun b => (a, b)) ++ twoY l
def encP (p : List Tk × List Tk) : List MV := [encC p.1, encC p.2]
theorem two_iff : ∀ l : List (List Tk), pairsF l = true ↔ ∀ p ∈ twoY l, pairF p.1 p.2 = true
 | [] => by simp [pairsF, twoY]
 | a :: l => by
  rw [pairsF, twoY, Bool.and_eq_true, two_iff l, List.all_eq_true]
  simp only [zV2, List.mem_map]
  constructor
  ·rintro ⟨h1, h2⟩ p (⟨b, hb, rfl⟩ | hp)
   ·exact h1 b hb
   ·exact h2 p hp
  ·intro h
   exact ⟨fun b hb => h (a, b) (.inl ⟨b, hb, rfl⟩), fun p hp => h p (.inr hp)⟩
theorem drop_cons_get {α : Type} {l r : List α} {a : α} {j : Nat} (h : a :: r = l.drop j) : l[j]? = some a ∧ r = l.drop (j + 1) := by
 have h1 := congrArg (fun q => q[0]?) h
 have h2 := congrArg (List.drop 1) h
 simp only [List.getElem?_cons_zero, List.getElem?_drop, Nat.add_zero] at h1
 refine ⟨h1.symm, ?_⟩
 simpa [List.drop_drop] using h2
theorem _root_.zT1 : type_of% @drop_cons_get := @drop_cons_get
theorem drop_nil_len {α : Type} {l : List α} {j : Nat} (h : [] = l.drop j) : l.length ≤ j := by
 have := congrArg List.length h
 simp at this
 omega
theorem drop_at {α : Type} {l : List α} {i : Nat} {a : α} (h : l[i]? = some a) : l.drop i = a :: l.drop (i + 1) := by
 obtain ⟨hlt, e⟩ := zD.1 h
 rw [List.drop_eq_getElem_cons hlt, e]
theorem two_mem : ∀ {l : List (List Tk)} {a b : List Tk}, (a, b) ∈ twoY l → a ∈ l ∧ b ∈ l
 | [], a, b, h => by simp [twoY] at h
 | x :: l, a, b, h => by
  rw [twoY, zV2] at h
  rcases h with h | h
  ·obtain ⟨y, hy, e⟩ := List.mem_map.1 h
   injection e with e1 e2
   subst e1 e2
   exact ⟨zH2 .., zA2 _ hy⟩
  ·have := two_mem h
   exact ⟨zA2 _ this.1, zA2 _ this.2⟩
theorem clock_len {c : List Tk} (h : isClockF c = true) : c.length ≤ 40 := by
 unfold isClockF at h
 simp at h
 omega
def orF (l : List Int) : Int := (l.find? (· != 0)).getD 0
theorem or_two (a b : Int) : orF [a, b] = if a ≠ 0 then a else b := by
 unfold orF
 by_cases h : a = 0
 ·by_cases h2 : b = 0
  ·simp [h, h2]
  ·simp [h, h2]
 ·simp [h]
theorem or_cons (a : Int) (l : List Int) : orF (a :: l) = if a ≠ 0 then a else orF l := by
 unfold orF
 by_cases h : a = 0 <;> simp [h]
def encI (n : Int) : MV := .int .i64 n
theorem ticks_at {a b : List Tk} {i : Nat} {x y : Tk} (ha : a[i]? = some x) (hb : b[i]? = some y) : byTicksF (a.drop i) (b.drop i) = if tickC x y ≠ 0 then tickC x y else byTicksF (a.drop (i + 1)) (b.drop (i + 1)) := by
 rw [drop_at ha, drop_at hb, byTicksF]
def findGo {α : Type} (p : α → Bool) : Nat → List α → Int
 | _, [] => -1
 | i, x :: l => if p x then (i : Int) else findGo p (i + 1) l
theorem find_any {α : Type} (p : α → Bool) : ∀ (i : Nat) (l : List α), decide (0 ≤ findGo p i l) = l.any p
 | _, [] => by simp [findGo]
 | i, x :: l => by
  rw [findGo, List.any_cons]
  split
  ·rename_i h; simp [h]
  ·rename_i h; rw [find_any p (i + 1) l]; simp [h]
theorem find_at {α : Type} {p : α → Bool} {l : List α} {i : Nat} {x : α} (h : l[i]? = some x) : findGo p i (l.drop i) = if p x then (i : Int) else findGo p (i + 1) (l.drop (i + 1)) := by
 rw [drop_at h, findGo]
theorem _root_.zK0 : type_of% @Tryz.underlying252 := @Tryz.underlying252
theorem pairs_iter (l : List Bs) (hlen : l.length ≤ maxLen) (bid l0 : Nat) : IterOk Tryz.prog 215 [] [.ref bid 0] (pairsY l) (fun σ => σ.length = l0 ∧ σ[bid]? = some (.cells [.lst none 1 (l.map encX)])) := by
 refine iterOk_of fun id T m hok hm hyt hyf => ?_
 refine zM Tryz.func215 V Tryz.ntmps215 (zA V) ?_
 rw [List.append_nil]
 show mwp _ _ _ _ _ _ _ (([] : MS) ++ T 0)
 refine zB <| qR V <| qA V V V <| qN <| zX ?_
 refine zS1 (α := Nat) [(0, _), (1, _)] (fun j => [(3, .int .i64 ((j + 1 : Nat) : Int))]) (fun j => T j) (fun j => j ≤ m) (fun j => m + 1 - j) (0) (.keep V (.keep V (.nil))) (.keep V (.nil)) (by omega) (V) ?_
 rintro j hj
 refine zB <| zB <| qR V <| qM V V V <| qO V <| zP V V (hok _).2 ta252 V <| qE V V zK0 V <| qC V V V V V <| qN ?_
 refine zJ V (fun h7 => ?_) (fun h7 => ?_)
 ·
  have hlt : j + 1 < l.length := by rw [zF] at h7; simp at h7; omega
  obtain ⟨a, hs⟩ : ∃ a, l[j]? = some a := ⟨_, zC (by omega)⟩
  obtain ⟨b, hs2⟩ : ∃ a, l[j + 1]? = some a := ⟨_, zC hlt⟩
  have hy := pairsY_get hs hs2
  have hjl : j < (pairsY l).length := (zD.1 hy).1
  refine zQ <| zB <| zX <| zB ?_
  rcases Nat.lt_or_eq_of_le hj with hjm | hjm
  ·
   refine zX0 [10] [_, T (j + 1)] mo (by decide) V V V V ?_
   refine dO V V V (zY V V Vv) <| zU V V (.cons (zP V V (hok _).2 ta252 V Vv) (.cons (zP V V (hok _).2 ta252 V Vv) (.nil))) <| zU V V (.cons (zY V V Vv) (.cons (zY V V Vv) (.nil))) <| zU V V (.cons (zT0 V V V (wsub (a := j + 1) (b := 1) (c := j) (by omega) (by simp only [maxLen] at hlen; omega)) Vv) (.cons (zT0 V V V (wsub (a := j + 1) (b := 1) (c := j) (by omega) (by simp only [maxLen] at hlen; omega)) Vv) (.nil))) ?_
   refine zU V V (.cons (zK V zK0 sz9 (by decide) V V V (zE1 hs) Vv) (.cons (zK V zK0 sz9 (by decide) V V V (zE1 hs) Vv) (.nil))) ?_
   refine dO V V V (zO V V ta9 V Vv) <| zU V V (.cons (zP V V (hok _).2 ta252 V Vv) (.cons (zP V V (hok _).2 ta252 V Vv) (.nil))) <| zU V V (.cons (zY V V Vv) (.cons (zY V V Vv) (.nil))) <| zU V V (.cons (zK V zK0 sz9 (by decide) V V V (zE1 hs2) Vv) (.cons (zK V zK0 sz9 (by decide) V V V (zE1 hs2) Vv) (.nil))) ?_
   refine dO V V V (zO V V ta9 V Vv) <| zB1 V V V V ((hyt j _ hjm hy).at0 V V V) <| dO V V V (zC1 V V Vv) <| zP0 <| zL V (V) <| zQ <| qR V <| qM V V V <| qO V <| zT0 V V V V <| qA V V V <| qN ?_
   refine ⟨j + 1, by omega, by omega, rfl, (.keep V (.keep V (.nil))), (.eq V (zQ1 hlt hlen) (.nil))⟩
  ·
   refine zX0 [10] [_, T (j + 1)] mo (by decide) V V V V ?_
   refine dO V V V (zY V V Vv) <| zU V V (.cons (zP V V (hok _).2 ta252 V Vv) (.cons (zP V V (hok _).2 ta252 V Vv) (.nil))) <| zU V V (.cons (zY V V Vv) (.cons (zY V V Vv) (.nil))) <| zU V V (.cons (zT0 V V V (wsub (a := j + 1) (b := 1) (c := j) (by omega) (by simp only [maxLen] at hlen; omega)) Vv) (.cons (zT0 V V V (wsub (a := j + 1) (b := 1) (c := j) (by omega) (by simp only [maxLen] at hlen; omega)) Vv) (.nil))) ?_
   refine zU V V (.cons (zK V zK0 sz9 (by decide) V V V (zE1 hs) Vv) (.cons (zK V zK0 sz9 (by decide) V V V (zE1 hs) Vv) (.nil))) ?_
   refine dO V V V (zO V V ta9 V Vv) <| zU V V (.cons (zP V V (hok _).2 ta252 V Vv) (.cons (zP V V (hok _).2 ta252 V Vv) (.nil))) <| zU V V (.cons (zY V V Vv) (.cons (zY V V Vv) (.nil))) <| zU V V (.cons (zK V zK0 sz9 (by decide) V V V (zE1 hs2) Vv) (.cons (zK V zK0 sz9 (by decide) V V V (zE1 hs2) Vv) (.nil))) ?_
   refine dO V V V (zO V V ta9 V Vv) <| zB1 V V V V ((hyf j _ hjm hy).at0 V V V) <| dO V V V (zC1 V V Vv) <| zP0 <| zT V (V) ?_
   refine zW0 fun hcv hcl => ?_
   refine zI ?_
   exact zF3 (S' := T (j + 1)) (by simp) Tryz.results215 (by rw [(hok _).1, (hok _).1]; exact Nat.le_refl _) hcl ⟨rfl, by rw [hjm, if_pos (by omega)]⟩
 ·
  have hge : l.length ≤ j + 1 := by rw [zF] at h7; simp at h7; omega
  have hpl := pairsY_len l
  have hjm : j = m := by omega
  refine zW0 fun hcv hcl => ?_
  refine zM1 ?_
  exact zF3 (S' := T j) (by simp) Tryz.results215 (by rw [(hok _).1, (hok _).1]; exact Nat.le_refl _) hcl ⟨rfl, by rw [hjm, if_neg (by rw [pairsY_len]; omega)]⟩
theorem pairs_spec (l : List Bs) (S : MS) : MCalls Tryz.prog 167 [.lst none 1 (l.map encX)] S fun v σ' => v = .fn (.func 215) [] [.ref S.length 0] ∧ σ' = S ++ [.cells [.lst none 1 (l.map encX)]] := by
 refine zM Tryz.func167 V Tryz.ntmps167 (zA V) ?_
 refine zB <| qR V <| qB V V V V V <| qA V V V <| qN <| zB <| qR V <| qO V <| zO2 V V V <| qA V V V <| qN ?_
 refine zW0 fun hcv hcl => ?_
 refine zI ?_
 exact ret_tmpT (.inr V) Tryz.results167 V (.refl _) (hcv 2 _ rfl) (by simp) hcl Vv
theorem rowsIs_spec (l : List Bs) (S : MS) : MCalls Tryz.prog 118 [.lst none 1 (l.map encX)] S fun v σ' => v = .bool (risesF l) ∧ σ' = S := by
 refine zM Tryz.func118 V Tryz.ntmps118 (zA V) ?_
 refine zL3 (t := 0) V fun hlen => ?_
 rw [zF] at hlen
 refine zB <| qR V <| qO V <| zN0 V zm4 V V <| qN <| zB <| zB <| qR V <| qM V V V ?_
 refine qX V V V V co167 (pairs_spec l _) ?_
 rw [zN]
 refine qN <| zX ?_
 refine mwp_rangeB (ok := fun σ => σ.length = S.length + 3 ∧ σ[(S ++ [MObj.cells [.bool false]]).length]? = some (.cells [.lst none 1 (l.map encX)])) (ys := pairsY l) .ret (.inl V) (fun j => Op.bytesLess (l.getD j []) (l.getD (j + 1) [])) (fun j => ([.cells [.bool false], .cells [.lst none 1 (l.map encX)]] : MS)) (fun j => ([.cells [.bool false], .cells [.lst none 1 (l.map encX)]] : MS)) (fun j => V) (fun j => V) V (fun j o ho n hn => by simp at ho; rcases ho with rfl | rfl <;> intro x hx <;> (simp at hx; subst hx; first | exact .bool _ | exact cl_texts _ _ | exact cl_clocks _ _)) (fun j o ho n hn => by simp at ho; rcases ho with rfl | rfl <;> intro x hx <;> (simp at hx; subst hx; first | exact .bool _ | exact cl_texts _ _ | exact cl_clocks _ _)) V co215 V (by simp) ((pairs_iter l hlen _ _).weak fun σ h => h.1) (fun j => ⟨by simp, get_box⟩) (fun j s q => ⟨by simp, get_box⟩) V (fun y hy => by obtain ⟨i, _, rfl⟩ := List.mem_map.1 hy; rfl) ?_ ?_ ?_
 ·
  intro j y hy hbef L'
  obtain ⟨hjl, hys⟩ := zD.1 hy
  have hpl := pairsY_len l
  obtain ⟨a, hs⟩ : ∃ a, l[j]? = some a := ⟨_, zC (by omega)⟩
  obtain ⟨b, hs2⟩ : ∃ a, l[j + 1]? = some a := ⟨_, zC (by omega)⟩
  have hyy := pairsY_get hs hs2
  rw [hy] at hyy
  injection hyy with hyy
  subst hyy
  have ha : l.getD j [] = a := by simp [hs]
  have hb : l.getD (j + 1) [] = b := by simp [hs2]
  rw [ha, hb]
  refine zB <| qR V <| qA V V V <| qN <| qR V <| qA V V V <| qN ?_
  refine ⟨rfl, [], by rw [List.append_nil], ?_⟩
  rw [List.append_nil]
  refine zX <| zB <| qR V <| qM V V V <| qM V V V <| qO V <| zS2 V V V V <| qN ?_
  refine zJ V (fun h11 => ?_) (fun h11 => ?_)
  ·
   refine zB <| qR V <| qO V <| zJ3 V V V V sz4 V V (zA V) V <| qN <| zI ?_
   exact .inr ⟨by simpa using h11, rfl, [], by rw [List.append_nil]; rfl⟩
  ·
   refine zQ ?_
   exact .inl ⟨by simpa using h11, rfl, [], by rw [List.append_nil]⟩
 ·
  intro hall
  rw [zN]
  have hr : risesF l = true := (rises_iff l).2 fun i hi => hall i (by rw [pairsY_len]; omega)
  refine zB <| qR V <| qO V <| zC0 V V V V sz4 V V (zA V) V <| qN <| zI ?_
  exact zK2 (.inr V) Tryz.results118 V V ta4 V (.refl _) (.bool _) ⟨by rw [hr], rfl⟩
 ·
  intro j y hy hp
  have hjl := (zD.1 hy).1
  rw [pairsY_len] at hjl
  have hr : risesF l = false := by
   cases h : risesF l with
   | false => rfl
   | true => rw [(rises_iff l).1 h j (by omega)] at hp; cases hp
  rw [zN]
  exact zK2 (.inr V) Tryz.results118 V V ta4 V (.refl _) (.bool _) ⟨by rw [hr], rfl⟩
theorem two_iter (l : List (List Tk)) (hlen : l.length ≤ maxLen) (bid l0 : Nat) : IterOk Tryz.prog 286 [] [.ref bid 0] ((twoY l).map encP) (fun σ => σ.length = l0 ∧ σ[bid]? = some (.cells [.lst none 1 (l.map encC)])) := by
 refine iterOk_of fun id T m hok hm hyt hyf => ?_
 have hml : ((twoY l).map encP).length = (twoY l).length := zF ..
 refine zM Tryz.func286 V Tryz.ntmps286 (zA V) ?_
 rw [List.append_nil]
 show mwp _ _ _ _ _ _ _ (([] : MS) ++ T 0)
 refine zB <| qR V <| qO V <| zP V V (hok _).2 ta24 V <| qE V V zE0 V <| qM V V V <| qN <| zX ?_
 refine zS1 (α := Nat × Nat) [(0, _), (1, _), (6, _)] (fun x => [(7, .int .i64 (x.2 : Int))]) (fun x => T x.1) (fun x => x.1 ≤ m ∧ x.2 ≤ l.length ∧ twoY (l.drop x.2) = (twoY l).drop x.1) (fun x => l.length - x.2) (⟨0, 0⟩) (.keep V (.keep V (.keep V (.nil)))) (.keep V (.nil)) (⟨by simp, by simp, rfl⟩) (V) ?_
 rintro ⟨j, i⟩ ⟨hj, hi, he⟩
 dsimp only at hj hi he ⊢
 refine zB <| qR V <| qC V V V V V <| qN <| zB ?_
 refine zJ V (fun h8 => ?_) (fun h8 => ?_)
 ·
  have hlt : i < l.length := by rw [zF] at h8; simpa using h8
  obtain ⟨a, hs⟩ : ∃ a, l[i]? = some a := ⟨_, zC hlt⟩
  refine zQ <| zB <| zX <| zB <| qR V <| qM V V V <| qA V V V <| qN <| zB <| qR V <| qM V V V <| qO V <| zT0 V V V (wadd (a := i) (b := 1) V (by simp only [maxLen] at hlen; omega)) ?_
  refine qA V V V <| qN <| zX ?_
  refine zS1 (α := Nat × Nat) [(0, _), (1, _), (3, _), (6, _), (7, _)] (fun y => [(4, .int .i64 (y.2 : Int))]) (fun y => T y.1) (fun y => y.1 ≤ m ∧ y.2 ≤ l.length ∧ (l.drop y.2).map (fun b => (a, b)) ++ twoY (l.drop (i + 1)) = (twoY l).drop y.1) (fun y => l.length - y.2) (⟨j, i + 1⟩) (.keep V (.keep V (.keep V (.keep V (.keep V (.nil)))))) (.keep V (.nil)) (⟨hj, by dsimp only; omega, by dsimp only; rw [← he, drop_at hs, twoY]⟩) (V) ?_
  rintro ⟨j2, k⟩ ⟨hj2, hk, he2⟩
  dsimp only at hj2 hk he2 ⊢
  refine zB <| zB <| qR V <| qM V V V <| qO V <| zP V V (hok _).2 ta24 V <| qE V V zE0 V <| qC V V V V V <| qN ?_
  refine zJ V (fun h15 => ?_) (fun h15 => ?_)
  ·
   have hlt2 : k < l.length := by rw [zF] at h15; simpa using h15
   obtain ⟨b, hs2⟩ : ∃ a, l[k]? = some a := ⟨_, zC hlt2⟩
   have hnx := he2
   rw [drop_at hs2, List.map_cons, List.cons_append] at hnx
   obtain ⟨hy, hnx⟩ := zT1 hnx
   replace hy : ((twoY l).map encP)[j2]? = some [encC a, encC b] := by rw [zH0, hy]; rfl
   have hjl := (zD.1 hy).1
   refine zQ <| zB <| zX <| zB ?_
   rcases Nat.lt_or_eq_of_le hj2 with hjm | hjm
   ·
    refine zX0 [9] [_, T (j2 + 1)] mo (by decide) V V V V ?_
    refine dO V V V (zY V V Vv) <| zU V V (.cons (zP V V (hok _).2 ta24 V Vv) (.cons (zP V V (hok _).2 ta24 V Vv) (.nil))) <| zU V V (.cons (zY V V Vv) (.cons (zY V V Vv) (.nil))) <| zU V V (.cons (zK V zE0 sz202 (by decide) V V V (zE1 hs) Vv) (.cons (zK V zE0 sz202 (by decide) V V V (zE1 hs) Vv) (.nil))) ?_
    refine dO V V V (zO V V ta202 V Vv) <| zU V V (.cons (zP V V (hok _).2 ta24 V Vv) (.cons (zP V V (hok _).2 ta24 V Vv) (.nil))) <| zU V V (.cons (zY V V Vv) (.cons (zY V V Vv) (.nil))) <| zU V V (.cons (zK V zE0 sz202 (by decide) V V V (zE1 hs2) Vv) (.cons (zK V zE0 sz202 (by decide) V V V (zE1 hs2) Vv) (.nil))) ?_
    refine dO V V V (zO V V ta202 V Vv) <| zB1 V V V V ((hyt j2 _ hjm hy).at0 V V V) <| dO V V V (zC1 V V Vv) <| zP0 <| zL V (V) <| zQ <| qR V <| qM V V V <| qO V <| zT0 V V V V <| qA V V V <| qN ?_
    refine ⟨⟨j2 + 1, k + 1⟩, by dsimp only; omega, ⟨by dsimp only; omega, by dsimp only; omega, hnx⟩, rfl, (.keep V (.keep V (.keep V (.keep V (.keep V (.nil)))))), (.eq V (zQ1 hlt2 hlen) (.nil))⟩
   ·
    refine zX0 [9] [_, T (j2 + 1)] mo (by decide) V V V V ?_
    refine dO V V V (zY V V Vv) <| zU V V (.cons (zP V V (hok _).2 ta24 V Vv) (.cons (zP V V (hok _).2 ta24 V Vv) (.nil))) <| zU V V (.cons (zY V V Vv) (.cons (zY V V Vv) (.nil))) <| zU V V (.cons (zK V zE0 sz202 (by decide) V V V (zE1 hs) Vv) (.cons (zK V zE0 sz202 (by decide) V V V (zE1 hs) Vv) (.nil))) ?_
    refine dO V V V (zO V V ta202 V Vv) <| zU V V (.cons (zP V V (hok _).2 ta24 V Vv) (.cons (zP V V (hok _).2 ta24 V Vv) (.nil))) <| zU V V (.cons (zY V V Vv) (.cons (zY V V Vv) (.nil))) <| zU V V (.cons (zK V zE0 sz202 (by decide) V V V (zE1 hs2) Vv) (.cons (zK V zE0 sz202 (by decide) V V V (zE1 hs2) Vv) (.nil))) ?_
    refine dO V V V (zO V V ta202 V Vv) <| zB1 V V V V ((hyf j2 _ hjm hy).at0 V V V) <| dO V V V (zC1 V V Vv) <| zP0 <| zT V (V) ?_
    refine zW0 fun hcv hcl => ?_
    refine zI ?_
    exact zF3 (S' := T (j2 + 1)) (by simp) Tryz.results286 (by rw [(hok _).1, (hok _).1]; exact Nat.le_refl _) hcl ⟨rfl, by rw [hjm, if_pos (by omega)]⟩
  ·
   have hge2 : k = l.length := by rw [zF] at h15; simp at h15; omega
   refine zM1 <| qR V <| qO V <| zT0 V V V V <| qM V V V <| qN ?_
   refine ⟨⟨j2, i + 1⟩, by dsimp only; omega, ⟨by dsimp only; omega, by dsimp only; omega, by rw [hge2, List.drop_length] at he2; exact he2⟩, rfl, (.keep V (.keep V (.keep V (.nil)))), (.eq V (zQ1 hlt hlen) (.nil))⟩
 ·
  have hge : i = l.length := by rw [zF] at h8; simp at h8; omega
  rw [hge, List.drop_length] at he
  have hdl := drop_nil_len he
  have hjm : j = m := by omega
  refine zW0 fun hcv hcl => ?_
  refine zM1 ?_
  exact zF3 (S' := T j) (by simp) Tryz.results286 (by rw [(hok _).1, (hok _).1]; exact Nat.le_refl _) hcl ⟨rfl, by rw [hjm, if_neg (by omega)]⟩
theorem two_spec (l : List (List Tk)) (S : MS) : MCalls Tryz.prog 250 [.lst none 1 (l.map encC)] S fun v σ' => v = .fn (.func 286) [] [.ref S.length 0] ∧ σ' = S ++ [.cells [.lst none 1 (l.map encC)]] := by
 refine zM Tryz.func250 V Tryz.ntmps250 (zA V) ?_
 refine zB <| qR V <| qB V V V V V <| qA V V V <| qN <| zB <| qR V <| qO V <| zO2 V V V <| qA V V V <| qN ?_
 refine zW0 fun hcv hcl => ?_
 refine zI ?_
 exact ret_tmpT (.inr V) Tryz.results250 V (.refl _) (hcv 2 _ rfl) (by simp) hcl Vv
theorem isNaNu_spec (m : Int) (S : MS) : MCalls Tryz.prog 298 [.int .u64 m] S fun v σ' => v = .bool false ∧ σ' = S := by
 refine zM Tryz.func298 V Tryz.ntmps298 (zA V) ?_
 refine zB <| qR V <| qA V V V <| qN <| zB <| qR V <| qM V V V <| qM V V V <| qC V V V V V <| qA V V V <| qN <| zI ?_
 exact zR (.inr V) Tryz.results298 V (.of_eq (by simp)) (.bool _) Vv
theorem compareu_spec (m n : Int) (S : MS) : MCalls Tryz.prog 271 [.int .u64 m, .int .u64 n] S fun v σ' => v = .int .i64 (cmpI m n) ∧ σ' = S := by
 refine zM Tryz.func271 V Tryz.ntmps271 (zA V) ?_
 refine zB <| qR V <| qA V V V <| qN <| zB <| qR V <| qM V V V ?_
 refine qX V V V V co298 (isNaNu_spec m _) ?_
 refine qA V V V <| qN <| zB <| qR V <| qM V V V ?_
 refine qX V V V V co298 (isNaNu_spec n _) ?_
 refine qA V V V <| qN <| zB <| zB <| qR V <| qM V V V <| qN <| zL V (V) <| zQ <| zB <| zB <| qR V <| qM V V V <| qN <| zL V (V) <| zQ <| zB <| zB <| qR V <| qM V V V <| qM V V V <| qC V V V V V <| qN ?_
 refine zJ V (fun h16 => ?_) (fun h16 => ?_)
 ·
  refine zB <| qR V <| qA V V V <| qN <| zI ?_
  exact zR (.inr V) Tryz.results271 V (.of_eq (by unfold cmpI; simp_all <;> omega)) (.int _ _) Vv
 ·
  refine zQ <| zB <| zB <| qR V <| qM V V V <| qM V V V <| qC V V V V V <| qN ?_
  refine zJ V (fun h19 => ?_) (fun h19 => ?_)
  ·
   refine zB <| qR V <| qA V V V <| qN <| zI ?_
   exact zR (.inr V) Tryz.results271 V (.of_eq (by unfold cmpI; simp_all <;> omega)) (.int _ _) Vv
  ·
   refine zQ <| zB <| qR V <| qA V V V <| qN <| zI ?_
   exact zR (.inr V) Tryz.results271 V (.of_eq (by unfold cmpI; simp_all <;> omega)) (.int _ _) Vv
theorem _root_.zN6 : type_of% @Tryz.underlying356 := @Tryz.underlying356
theorem cmpOr_spec (l : List Int) (S : MS) : MCalls Tryz.prog 270 [.lst none 1 (l.map encI)] S fun v σ' => v = .int .i64 (orF l) ∧ σ' = S := by
 refine zM Tryz.func270 V Tryz.ntmps270 (zA V) ?_
 refine zL3 (t := 0) V fun hlen => ?_
 rw [zF] at hlen
 refine zB <| qR V <| qA V V V <| qN <| zB <| qR V <| qA V V V <| qN <| zB <| zB <| qR V <| qM V V V <| qE V V zN6 V <| qM V V V <| qN <| zX ?_
 refine zS1 (α := Nat) [(3, _), (6, _), (7, _)] (fun i => [(8, .int .i64 (i : Int))]) (fun i => []) (fun i => i ≤ l.length ∧ orF (l.drop i) = orF l) (fun i => l.length - i) (0) (.keep V (.keep V (.keep V (.nil)))) (.keep V (.nil)) (⟨by omega, rfl⟩) (V) ?_
 rintro i ⟨hi, he⟩
 refine zB <| qR V <| qC V V V V V <| qN <| zB ?_
 refine zJ V (fun h9 => ?_) (fun h9 => ?_)
 ·
  have hlt : i < l.length := by simpa using h9
  obtain ⟨a, hs⟩ : ∃ q_, l[i]? = some q_ := ⟨_, zC hlt⟩
  refine zQ <| zB <| zX <| zB <| qR V <| qO V <| zK V zN6 sz3 (by decide) V V V (zE1 hs) ?_
  refine qO V <| zO V V ta3 V <| qA V V V <| qN <| zB <| qR V <| qM V V V <| qM V V V <| qC V V V V V <| qN ?_
  refine zJ V (fun h14 => ?_) (fun h14 => ?_)
  ·
   refine zB <| qR V <| qM V V V <| qA V V V <| qN <| zI ?_
   exact zR (.inr V) Tryz.results270 V (.of_eq (by rw [← he, drop_at hs, or_cons, if_pos (by simpa using h14)]; rfl)) (.int _ _) Vv
  ·
   refine zQ <| qR V <| qO V <| zT0 V V V V <| qM V V V <| qN ?_
   refine ⟨i + 1, by omega, ⟨by omega, by rw [← he, drop_at hs, or_cons, if_neg (by simpa using h14)]⟩, rfl, (.keep V (.keep V (.keep V (.nil)))), (.eq V (zQ1 hlt hlen) (.nil))⟩
 ·
  have hge : i = l.length := by simp at h9; omega
  refine zM1 <| zB <| qR V <| qM V V V <| qA V V V <| qN <| zI ?_
  exact zR (.inr V) Tryz.results270 V (.of_eq (by rw [← he, hge, List.drop_length]; rfl)) (.int _ _) Vv
theorem byTicks1_spec (x y : Tk) (S : MS) : MCalls Tryz.prog 288 [encT x, encT y] S fun v σ' => v = .int .i64 (tickC x y) ∧ σ' = S := by
 refine zM Tryz.func288 V Tryz.ntmps288 (zA V) ?_
 refine zB <| qR V <| qB V V V V V <| qB V V V V V <| qA V V V <| qN <| zB ?_
 refine zX0 [] [_] mo (by decide) V V V V ?_
 refine dO V V V (zE V V zB6 Vv) <| dO V V V (zO0 V V V ta3 V Vv) <| dO V V V (zE V V zB6 Vv) <| dO V V V (zO0 V V V ta3 V Vv) <| zU V V (.cons (zD1 V V V co166 (compare_spec x.1 y.1 _)) .nil) <| dO V V V (zE V V fo262_1 Vv) <| dO V V V (zO0 V V V ta22 V Vv) <| dO V V V (zE V V fo262_1 Vv) <| dO V V V (zO0 V V V ta22 V Vv) <| zU V V (.cons (zD1 V V V co271 (compareu_spec x.2 y.2 _)) .nil) <| dO V V V (zJ1 V zN6 el3 V V (by decide) (by decide) V V Vv) ?_
 refine zU V V (.cons (zD1 V V V co270 (cmpOr_spec [cmpI x.1 y.1, cmpI x.2 y.2] _)) .nil) <| dO V V V (zF1 V V Vv) <| zP0 <| zI ?_
 exact zR (.inr V) Tryz.results288 V (.of_eq (by rw [or_two]; rfl)) (.int _ _) Vv
theorem _root_.zV4 : type_of% @Tryz.results287 := @Tryz.results287
theorem cmpFuncT_spec (a b : List Tk) (S : MS) : MCalls Tryz.prog 287 [.lst none 2 (a.map encT), .lst none 2 (b.map encT), .fn (.func 288) [] []] S fun v σ' => v = .int .i64 (byTicksF a b) ∧ σ' = S := by
 refine zM Tryz.func287 V Tryz.ntmps287 (zA V) ?_
 refine zL3 (t := 0) V fun hlen => ?_
 rw [zF] at hlen
 refine zB <| qR V <| qA V V V <| qN <| zB <| zB <| qR V <| qM V V V <| qE V V zA0 V <| qM V V V <| qN <| zX ?_
 refine zD4 (α := Nat) [(0, _), (1, _), (2, _), (11, _), (12, _)] (fun i => [(13, .int .i64 (i : Int))]) (fun i => []) (fun i => i ≤ a.length ∧ i ≤ b.length ∧ byTicksF (a.drop i) (b.drop i) = byTicksF a b) (fun i => a.length - i) (0) (Nat.le_refl _) (.keep V (.keep V (.keep V (.keep V (.keep V (.nil)))))) (.keep V (.nil)) (⟨by omega, by omega, rfl⟩) (V) ?_
 rintro i ⟨hi, hib, he⟩
 refine zB <| qR V <| qC V V V V V <| qN <| zB ?_
 refine zJ V (fun h14 => ?_) (fun h14 => ?_)
 ·
  have hlt : i < a.length := by simpa using h14
  obtain ⟨x, hs⟩ : ∃ q_, a[i]? = some q_ := ⟨_, zC hlt⟩
  refine zQ <| zB <| zX <| zB <| qR V <| qM V V V <| qO V <| zK V zA0 sz262 (by decide) V V V (zE1 hs) ?_
  refine qO V <| zO V V ta262 V <| qO V <| zN0 V zm262 V V <| qA V V V <| qO V <| zC0 V V V V sz262 V V (zA V) V <| qN <| zB <| zB <| qR V <| qM V V V <| qM V V V <| qE V V zA0 V <| qC V V V V V <| qN ?_
  refine zJ V (fun h21 => ?_) (fun h21 => ?_)
  ·
   have hbe : b.drop i = [] := by rw [zF] at h21; simp at h21; exact List.drop_eq_nil_of_le (by omega)
   refine zB <| qR V <| qA V V V <| qN <| zI ?_
   exact zR (.inr V) zV4 V (.of_eq (by rw [← he, hbe, drop_at hs]; rfl)) (.int _ _) Vv
  ·
   have hltb : i < b.length := by rw [zF] at h21; simp at h21; omega
   obtain ⟨y, hs2⟩ : ∃ s, b[i]? = some s := ⟨_, zC hltb⟩
   refine zQ <| zB <| qR V <| qM V V V <| qM V V V <| qO V <| zK V zA0 sz262 (by decide) V V V (zE1 hs2) ?_
   refine qO V <| zO V V ta262 V <| qO V <| zN0 V zm262 V V <| qO V <| zC0 V V V V sz262 V V (zA V) V <| qN <| zB <| qR V <| qM V V V <| qL V V V V ta262 V <| qL V V V V ta262 V ?_
   refine qX V V V V co288 (byTicks1_spec x y _) ?_
   refine qA V V V <| qN <| zB <| qR V <| qM V V V <| qC V V V V V <| qN ?_
   refine zJ V (fun h31 => ?_) (fun h31 => ?_)
   ·
    refine zB <| qR V <| qM V V V <| qA V V V <| qN <| zI ?_
    exact zR (.inr V) zV4 V (.of_eq (by rw [← he, ticks_at hs hs2, if_pos (by simpa using h31)])) (.int _ _) Vv
   ·
    refine zQ <| qR V <| qO V <| zT0 V V V V <| qM V V V <| qN ?_
    refine ⟨i + 1, _, by omega, ⟨by omega, by omega, by rw [← he, ticks_at hs hs2, if_neg (by simpa using h31)]⟩, rfl, .nil, (.old V V (.old V V (.old V V (.old V V (.old V V (.nil)))))), (.new' V (zQ1 hlt hlen) (.int _ _) (.nil))⟩
 ·
  have hge : i = a.length := by simp at h14; omega
  refine zM1 <| zB <| zB <| qR V <| qM V V V <| qE V V zA0 V <| qM V V V <| qE V V zA0 V <| qC V V V V V <| qN ?_
  refine zJ V (fun h38 => ?_) (fun h38 => ?_)
  ·
   refine zB <| qR V <| qA V V V <| qN <| zI ?_
   exact zR (.inr V) zV4 V (.of_eq (by simp at h38; rw [← he, hge, List.drop_length, drop_at (zC (by omega : a.length < b.length))]; rfl)) (.int _ _) Vv
  ·
   refine zQ <| zB <| qR V <| qA V V V <| qN <| zI ?_
   exact zR (.inr V) zV4 V (.of_eq (by simp at h38; rw [← he, hge, List.drop_length, List.drop_eq_nil_of_le (by omega : b.length ≤ a.length)]; rfl)) (.int _ _) Vv
theorem byTicks_spec (a b : List Tk) (S : MS) : MCalls Tryz.prog 251 [.lst none 2 (a.map encT), .lst none 2 (b.map encT)] S fun v σ' => v = .int .i64 (byTicksF a b) ∧ σ' = S := by
 refine zM Tryz.func251 V Tryz.ntmps251 (zA V) ?_
 refine zB <| qR V <| qA V V V <| qN <| zB <| qR V <| qM V V V <| qM V V V ?_
 refine qX V V V V co287 (cmpFuncT_spec a b _) ?_
 refine qA V V V <| qN <| zI ?_
 exact zR (.inr V) Tryz.results251 V (.of_eq (V)) (.int _ _) Vv
theorem isCause_spec (l : List (List Tk)) (S : MS) : MCalls Tryz.prog 212 [.lst none 1 (l.map encC)] S fun v σ' => v = .bool (isCauseF l) ∧ σ' = S := by
 refine zM Tryz.func212 V Tryz.ntmps212 (zA V) ?_
 refine zL3 (t := 0) V fun hlen => ?_
 rw [zF] at hlen
 refine zB <| qR V <| qO V <| zN0 V zm4 V V <| qN <| zB <| zB <| qR V <| qM V V V <| qE V V zE0 V <| qM V V V <| qN <| zX ?_
 refine zS1 (α := Nat) [(0, _), (2, _), (7, _), (8, _)] (fun i => [(9, .int .i64 (i : Int))]) (fun i => [.cells [.bool false]]) (fun i => i ≤ l.length ∧ (l.take i).all isClockF = true) (fun i => l.length - i) (0) (.keep V (.keep V (.keep V (.keep V (.nil))))) (.keep V (.nil)) (⟨by omega, rfl⟩) (V) ?_
 rintro i ⟨hi, hall⟩
 refine zB <| qR V <| qC V V V V V <| qN <| zB ?_
 refine zJ V (fun h10 => ?_) (fun h10 => ?_)
 ·
  have hlt : i < l.length := by simpa using h10
  obtain ⟨c, hs⟩ : ∃ q_, l[i]? = some q_ := ⟨_, zC hlt⟩
  refine zQ <| zB <| zX <| zB <| qR V <| qO V <| zK V zE0 sz202 (by decide) V V V (zE1 hs) ?_
  refine qO V <| zO V V ta202 V <| qA V V V <| qN <| zB <| qR V <| qM V V V ?_
  refine qX V V V V co211 (clkIs_spec c _) ?_
  refine qO V <| zC1 V V <| qN ?_
  refine zJ V (fun h15 => ?_) (fun h15 => ?_)
  ·
   refine zB <| qR V <| qO V <| zC0 V V V V sz4 V V (zA V) V <| qN <| zI ?_
   exact zK2 (.inr V) Tryz.results212 V V ta4 V (.refl _) (.bool _) ⟨by rw [isCauseF, List.all_eq_false.2 ⟨c, zW hs, by simpa using h15⟩]; rfl, rfl⟩
  ·
   refine zQ <| qR V <| qO V <| zT0 V V V V <| qM V V V <| qN ?_
   refine ⟨i + 1, by omega, ⟨by omega, ?_⟩, rfl, (.keep V (.keep V (.keep V (.keep V (.nil))))), (.eq V (zQ1 hlt hlen) (.nil))⟩
   rw [List.take_add_one, hs, List.all_append, hall]
   simpa using h15
 ·
  have hge : i = l.length := by simp at h10; omega
  rw [hge, List.take_length] at hall
  have hcl := hall
  refine zM1 <| zB <| zB <| qR V <| qM V V V ?_
  refine qX V V V V co250 (two_spec l _) ?_
  rw [zN]
  refine qN <| zX ?_
  refine mwp_rangeB (ok := fun σ => σ.length = S.length + 3 ∧ σ[(S ++ [MObj.cells [.bool false]]).length]? = some (.cells [.lst none 1 (l.map encC)])) (ys := (twoY l).map encP) .ret (.inl V) (fun j => (match (twoY l)[j]? with | some p => pairF p.1 p.2 | none => true)) (fun j => ([.cells [.bool false], .cells [.lst none 1 (l.map encC)]] : MS)) (fun j => ([.cells [.bool false], .cells [.lst none 1 (l.map encC)]] : MS)) (fun j => V) (fun j => V) V (fun j o ho n hn => by simp at ho; rcases ho with rfl | rfl <;> intro x hx <;> (simp at hx; subst hx; first | exact .bool _ | exact cl_texts _ _ | exact cl_clocks _ _)) (fun j o ho n hn => by simp at ho; rcases ho with rfl | rfl <;> intro x hx <;> (simp at hx; subst hx; first | exact .bool _ | exact cl_texts _ _ | exact cl_clocks _ _)) V co286 V (by simp) ((two_iter l hlen _ _).weak fun σ h => h.1) (fun j => ⟨by simp, get_box⟩) (fun j s q => ⟨by simp, get_box⟩) V (fun y hy => by obtain ⟨i, _, rfl⟩ := List.mem_map.1 hy; rfl) ?_ ?_ ?_
  ·
   intro j y hy hbef L'
   rw [zH0] at hy
   obtain ⟨⟨a, b⟩, hp, rfl⟩ := Option.map_eq_some_iff.1 hy
   rw [hp]
   obtain ⟨ha, hb⟩ := two_mem (zW hp)
   have la := clock_len (List.all_eq_true.1 hcl a ha)
   have lb := clock_len (List.all_eq_true.1 hcl b hb)
   refine zB <| qR V <| qA V V V <| qN <| qR V <| qA V V V <| qN ?_
   refine ⟨rfl, [], by rw [List.append_nil], ?_⟩
   rw [List.append_nil]
   refine zX <| zB <| qR V <| qM V V V <| qM V V V ?_
   refine qX V V V V co251 (byTicks_spec a b _) ?_
   refine qC V V V V V <| qM V V V ?_
   refine zZ (fun h25 => ?_) (fun h25 => ?_)
   ·
    refine qT V V V V <| qP V V V V <| qN <| zT V (V) <| zB <| qR V <| qO V <| zJ3 V V V V sz4 V V (zA V) V <| qN <| zI ?_
    exact .inr ⟨by simp only [pairF]; simp_all <;> (intros; omega), rfl, [], by rw [List.append_nil]; rfl⟩
   ·
    refine qM V V V <| qM V V V ?_
    refine qX V V V V co252 (clkCmp_spec a b (by omega) _) ?_
    refine qC V V V V V <| qP V V V V <| qN ?_
    refine zJ V (fun h30 => ?_) (fun h30 => ?_)
    ·
     refine zB <| qR V <| qO V <| zJ3 V V V V sz4 V V (zA V) V <| qN <| zI ?_
     exact .inr ⟨by simp only [pairF]; simp_all <;> (intros; omega), rfl, [], by rw [List.append_nil]; rfl⟩
    ·
     refine zQ ?_
     exact .inl ⟨by simp only [pairF]; simp_all, rfl, [], by rw [List.append_nil]⟩
  ·
   intro hall2
   rw [zN]
   have hr : isCauseF l = true := by
    rw [isCauseF, hcl, Bool.true_and, two_iff]
    intro p hp
    obtain ⟨j, hj, rfl⟩ := List.mem_iff_getElem.1 hp
    have := hall2 j (by rw [zF]; exact hj)
    rw [zC hj] at this
    exact this
   refine zB <| qR V <| qO V <| zC0 V V V V sz4 V V (zA V) V <| qN <| zI ?_
   exact zK2 (.inr V) Tryz.results212 V V ta4 V (.refl _) (.bool _) ⟨by rw [hr], rfl⟩
  ·
   intro j y hy hp
   rw [zH0] at hy
   obtain ⟨⟨a, b⟩, hq, rfl⟩ := Option.map_eq_some_iff.1 hy
   rw [hq] at hp
   replace hp : pairF a b = false := hp
   have hr : isCauseF l = false := by
    rw [isCauseF, hcl, Bool.true_and]
    cases h : pairsF l with
    | false => rfl
    | true =>
     have : pairF a b = true := (two_iff l).1 h _ (zW hq)
     rw [this] at hp
     cases hp
   rw [zN]
   exact zK2 (.inr V) Tryz.results212 V V ta4 V (.refl _) (.bool _) ⟨by rw [hr], rfl⟩
end Go.Proofs.YtciimaabeabkdaaGreatDoor
