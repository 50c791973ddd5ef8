/-
  Texts on which the proof of TableKeys leans: part 6.
-/
import Derived.Test.YtciimaabeabkdaaGreatDoorTableKeysE
set_option linter.unusedVariables false
set_option linter.unusedSimpArgs false
set_option maxRecDepth 20000
set_option maxHeartbeats 8000000
namespace Go.Proofs.YtciimaabeabkdaaGreatDoor
open Go Go.MV
theorem bytes_setQ {s : Bs} {k : Nat} {c : UInt8} (hk : k < s.length) : setMany (s.map encY) (0 + k * 1) [.int .u8 (c.toNat : Int)] = (s.set k c).map encY := by
 rw [Nat.zero_add, Nat.mul_one, setMany, List.map_set, List.set_eq_take_append_cons_drop, if_pos (by simpa using hk)]
 simp [encY]
theorem take_bytesQ (l : Bs) : ((l.map encY).drop 0).take l.length = l.map encY := by
 rw [List.drop_zero, List.take_of_length_le (by simp)]
theorem _root_.zE2 : type_of% @take_bytesQ := @take_bytesQ
def kZ (i k : Nat) : Bs := List.replicate i 109 ++ List.replicate (k - i) 0
theorem kZ_len {i k : Nat} (h : i ≤ k) : (kZ i k).length = k := by simp [kZ]; omega
theorem kZ_zero (k : Nat) : List.replicate k (MV.int .u8 0) = (kZ 0 k).map encY := by simp [kZ, encY]
theorem kZ_full (k : Nat) : kZ k k = kyB k := by simp [kZ, kyB]
theorem kZ_set {i k : Nat} (h : i < k) : (kZ i k).set i 109 = kZ (i + 1) k := by
 unfold kZ
 rw [List.set_append_right _ _ (by simp), List.length_replicate, Nat.sub_self, show k - i = (k - (i + 1)) + 1 by omega, List.replicate_succ, List.set_cons_zero, List.replicate_succ' (n := i), zO]
 rfl
theorem _root_.zA1 : type_of% @Tryz.results6 := @Tryz.results6
theorem _root_.zR0 : type_of% @Tryz.underlying4 := @Tryz.underlying4
theorem TableKeys_spec (n a : Nat) (c : UInt8) (hn : n < 256) (ha : a < 256) (S : MS) : MCalls Tryz.prog 6 [.int .u8 (n : Int), .int .u8 (a : Int), .int .u8 (c.toNat : Int)] S fun v σ' => v = .bool true ∧ σ' = S := by
 have hc := c.toNat_lt
 refine zR Tryz.func6 V Tryz.ntmps6 (zA V) ?_
 obtain ⟨k, hk⟩ : ∃ k, n % 12 = k := ⟨_, rfl⟩
 have hk12 : k < 12 := by omega
 obtain ⟨⟨fn, fl, ⟨fk, fi⟩⟩, hft⟩ : ∃ t, (findP tabs4 (kyB k)).getD tb0 = t := ⟨_, rfl⟩
 have hfs := zU5 tabs4 (kyB k)
 rw [hft, keys_a] at hfs
 obtain ⟨⟨gn, gl, ⟨gk, gi⟩⟩, hgt⟩ : ∃ t, (findP tabs4 ((kyB k).set (a % k) c)).getD tb0 = t := ⟨_, rfl⟩
 have hgs := zU5 tabs4 ((kyB k).set (a % k) c)
 rw [hgt] at hgs
 refine zB <| qR V <| qA V V V <| qN <| zB <| zB <| qR V ?_
 refine qX V V V V co19 (known13_spec _) ?_
 refine qO V <| zF1 V V <| qN <| zK V (V) <| zX <| zB <| qR V <| qM V V V <| qO V <| op_rem V V V (by decide) (nat_tmod n 12) ?_
 refine qO V <| zL3 V zC1 zX2 V (wrap_i64 (by omega)) ?_
 refine qA V V V <| qN <| zB <| qR V <| qM V V V <| qO V <| op_makeSliceV V zS0 el5 zm5 V V (by rw [hk]) (by omega) (by simp only [maxLen]; omega) ?_
 rw [List.append_nil, hk]
 refine qA V V V <| qN <| zB <| zB <| qR V <| qA V V V <| qN <| zB0 ?_
 refine zK2 (α := Nat) [(1, _), (2, _), (7, _), (8, _)] (fun i => [(9, .int .i64 (i : Int))]) (fun i => [MObj.cells ((kZ i k).map encY)]) (fun i => i ≤ k) (fun i => k - i) (0) (.keep V (.keep V (.keep V (.keep V (.nil))))) (.keep V (.nil)) (by omega) (by rw [kZ_zero]) ?_
 rintro i hi
 refine zB <| zB <| qR V <| qM V V V <| qM V V V <| qC V V V V V <| qN ?_
 refine zM V (fun h26 => ?_) (fun h26 => ?_)
 ·
  have hlt : i < k := by simpa using h26
  refine zX <| zB <| zB0 <| qR V <| qM V V V <| qM V V V <| qO V <| op_indexAddr_vec V zS0 sz5 V V V hlt <| qO V <| zK4 V V V (by simp : (S ++ [MObj.cells ((kZ i k).map encY)])[S.length]? = some (.cells ((kZ i k).map encY))) sz5 V V (by simp [kZ]; omega) ?_
  have hst : (S ++ [MObj.cells ((kZ i k).map encY)]).set S.length (.cells (setMany ((kZ i k).map encY) (0 + i * 1) (MV.int .u8 109).cells)) = S ++ [MObj.cells ((kZ (i + 1) k).map encY)] := by
   rw [show (MV.int .u8 109).cells = [MV.int .u8 (((109 : UInt8).toNat : Nat) : Int)] from rfl, bytes_setQ (by rw [kZ_len (by omega)]; exact hlt), kZ_set hlt]
   simp
  refine qN <| qR V <| qM V V V <| qO V <| zH1 V V V V <| qA V V V <| qN ?_
  refine ⟨i + 1, by omega, by omega, by exact hst, (.keep V (.keep V (.keep V (.keep V (.nil))))), (.eq V (zH2 hlt (by simp only [maxLen]; omega)) (.nil))⟩
 ·
  have hge : i = k := by simp at h26; omega
  rw [hge, kZ_full]
  refine zV1 <| zB <| qR V <| qM V V V <| qC V V V V (geqN (n := k) (m := 2)) <| qM V V V ?_
  refine zH0 (fun h34 => ?_) (fun h34 => ?_)
  ·
   refine qM V V V <| qC V V V V (leqN (n := k) (m := 8)) <| qP V V V V <| qA V V V <| qN <| zB ?_
   refine zW0 [7, 8] [_, S ++ [MObj.cells ((kyB k).map encY), .cells [.str ⟨#[]⟩, .int .i64 0, .int .i64 0, .lst0]], S ++ [MObj.cells ((kyB k).map encY), .cells (encTb (fn, fl, .mk fk fi)).cells]] mo (by decide) V V V V ?_
   refine zN V V (.cons (zT0 V V V co26 (zB1 _)) (.cons (zT0 V V V co26 (zB1 _)) (.nil))) <| zN V V (.cons (zY V V Vv) (.cons (zY V V Vv) (.nil))) <| zN V V (.cons (zD2 (l := kyB k) V zS0 zC1 zL0 (by rw [zE3]; rfl) (zM2 V) (by exact zE2 _) Vv) (.cons (zD2 (l := kyB k) V zS0 zC1 zL0 (by rw [zE3]; rfl) (zM2 V) (by exact zE2 _) Vv) (.nil))) ?_
   refine zN V V (.cons (zT0 V V V co20 (hfs _)) (.cons (zT0 V V V co20 (hfs _)) (.nil))) <| zN V V (.cons (zY V V Vv) (.cons (zY V V Vv) (.nil))) <| zN V V (.cons (zS V V V Vv) (.cons (zS V V V Vv) (.nil))) <| zN V V (.cons (zS V V V Vv) (.cons (zS V V V Vv) (.cons (zS V V V Vv) (.nil)))) <| zV0 V V V V (zM0 V zm55 V V Vv) <| zV0 V V V V (zZ V V V V sz55 V V (zA V) V Vv) <| dO V V V (zZ0 V V Vv) <| zQ0 <| zB <| zB <| qR V <| qM V V V <| qC V V V V V <| qN ?_
   refine zM V (fun h46 => ?_) (fun h46 => ?_)
   ·
    have hk0 : k = 0 := by simpa using h46
    refine zB <| qR V <| qM V V V <| qO V <| zF1 V V <| qA V V V <| qN <| zH ?_
    exact zT (.inr V) zA1 V (.of_eq (by rw [hk0]; rfl)) (.bool _) Vv
   ·
    have hk0 : ¬ k = 0 := by simpa using h46
    have hmod := Nat.mod_lt a (show 0 < k by omega)
    rw [keys_c c hmod] at hgs
    refine zX <| zB <| qR V <| qM V V V <| qO V <| zL3 V zC1 zX2 V (wrap_i64 (by omega)) ?_
    refine qM V V V <| qO V <| op_rem V V V (by omega) (nat_tmod a k) ?_
    refine qA V V V <| qN <| zB <| qR V <| qM V V V <| qM V V V <| qM V V V <| qO V <| op_indexAddr_vec V zS0 sz5 V V V hmod <| qO V <| zK4 V V V (zM2 V) sz5 V V (by simp [kyB]; omega) ?_
    have hst2 : (S ++ [MObj.cells ((kyB k).map encY), .cells (encTb (fn, fl, .mk fk fi)).cells]).set S.length (.cells (setMany ((kyB k).map encY) (0 + a % k * 1) (MV.int .u8 (c.toNat : Int)).cells)) = S ++ [MObj.cells (((kyB k).set (a % k) c).map encY), .cells (encTb (fn, fl, .mk fk fi)).cells] := by
     rw [show (MV.int .u8 (c.toNat : Int)).cells = [MV.int .u8 (c.toNat : Int)] from rfl, bytes_setQ (by rw [zE3]; exact hmod)]
     exact own_set0
    rw [hst2]
    refine qN <| zB <| qR V <| qM V V V <| qC V V V V V <| qM V V V ?_
    refine zH0 (fun h59 => ?_) (fun h59 => ?_)
    ·
     refine qM V V V <| qC V V V V V <| qP V V V V <| qM V V V ?_
     refine zH0 (fun h63 => ?_) (fun h63 => ?_)
     ·
      refine qT V V V V <| qS V <| qS V <| qP V V V V <| qA V V V <| qN <| zB ?_
      refine zW0 [7, 8] [_, S ++ [MObj.cells (((kyB k).set (a % k) c).map encY), .cells (encTb (fn, fl, .mk fk fi)).cells, .cells [.str ⟨#[]⟩, .int .i64 0, .int .i64 0, .lst0]], S ++ [MObj.cells (((kyB k).set (a % k) c).map encY), .cells (encTb (fn, fl, .mk fk fi)).cells, .cells (encTb (gn, gl, .mk gk gi)).cells]] mo (by decide) V V V V ?_
      refine zN V V (.cons (zT0 V V V co26 (zB1 _)) (.cons (zT0 V V V co26 (zB1 _)) (.nil))) <| zN V V (.cons (zY V V Vv) (.cons (zY V V Vv) (.nil))) <| zN V V (.cons (zD2 (l := (kyB k).set (a % k) c) V zS0 zC1 zL0 (by rw [List.length_set, zE3]; rfl) (zM2 V) (by exact zE2 _) Vv) (.cons (zD2 (l := (kyB k).set (a % k) c) V zS0 zC1 zL0 (by rw [List.length_set, zE3]; rfl) (zM2 V) (by exact zE2 _) Vv) (.nil))) ?_
      refine zN V V (.cons (zT0 V V V co20 (hgs _)) (.cons (zT0 V V V co20 (hgs _)) (.nil))) <| zN V V (.cons (zY V V Vv) (.cons (zY V V Vv) (.nil))) <| zN V V (.cons (zS V V V Vv) (.cons (zS V V V Vv) (.nil))) <| zN V V (.cons (zS V V V Vv) (.cons (zS V V V Vv) (.cons (zS V V V Vv) (.nil)))) <| zV0 V V V V (zM0 V zm55 V V Vv) <| zV0 V V V V (zZ V V V V sz55 V V (zA V) V Vv) <| dO V V V (zZ0 V V Vv) <| zQ0 <| zB <| qR V <| qM V V V <| qM V V V <| qO V <| zT1 V zR0 V V <| qM V V V ?_
      refine zH0 (fun h81 => ?_) (fun h81 => ?_)
      ·
       refine qM V V V <| qM V V V <| qM V V V ?_
       refine zH0 (fun h84 => ?_) (fun h84 => ?_)
       ·
        refine qM V V V <| qP V V V V <| qM V V V <| qM V V V <| qC V V V V V <| qM V V V ?_
        refine zH0 (fun h90 => ?_) (fun h90 => ?_)
        ·
         refine qS V <| qS V <| qP V V V V <| qM V V V <| qS V <| qS V <| qP V V V V <| qM V V V <| qS V <| qS V <| qP V V V V <| qM V V V <| qS V <| qS V <| qP V V V V <| qP V V V V <| qO V <| zT1 V zR0 V V <| qP V V V V <| qA V V V ?_
         refine qN <| zH ?_
         exact zT (.inr V) zA1 V (.of_eq (by (congr 1; clear hfs hgs hft hgt hst2; (first | rw [beq_iff_eq, zP] | exfalso); (simp [goodK, plainC, firstK, ← UInt8.toNat_inj] at * <;> omega)))) (.bool _) Vv
        ·
         refine qM V V V <| qC V V V V V <| qP V V V V <| qM V V V ?_
         refine zH0 (fun h94 => ?_) (fun h94 => ?_)
         ·
          refine qS V <| qS V <| qP V V V V <| qM V V V <| qS V <| qS V <| qP V V V V <| qM V V V <| qS V <| qS V <| qP V V V V <| qP V V V V <| qO V <| zT1 V zR0 V V <| qP V V V V <| qA V V V <| qN <| zH ?_
          exact zT (.inr V) zA1 V (.of_eq (by (congr 1; clear hfs hgs hft hgt hst2; (first | rw [beq_iff_eq, zP] | exfalso); (simp [goodK, plainC, firstK, ← UInt8.toNat_inj] at * <;> omega)))) (.bool _) Vv
         ·
          refine qM V V V <| qC V V V V V <| qP V V V V <| qM V V V ?_
          refine zH0 (fun h98 => ?_) (fun h98 => ?_)
          ·
           refine qS V <| qS V <| qP V V V V <| qM V V V <| qS V <| qS V <| qP V V V V <| qP V V V V <| qO V <| zT1 V zR0 V V <| qP V V V V <| qA V V V <| qN <| zH ?_
           exact zT (.inr V) zA1 V (.of_eq (by (congr 1; clear hfs hgs hft hgt hst2; (first | rw [beq_iff_eq, zP] | exfalso); (simp [goodK, plainC, firstK, ← UInt8.toNat_inj] at * <;> omega)))) (.bool _) Vv
          ·
           refine qM V V V <| qC V V V V V <| qP V V V V <| qM V V V ?_
           refine zH0 (fun h102 => ?_) (fun h102 => ?_)
           ·
            refine qS V <| qS V <| qP V V V V <| qP V V V V <| qO V <| zT1 V zR0 V V <| qP V V V V <| qA V V V <| qN <| zH ?_
            exact zT (.inr V) zA1 V (.of_eq (by (congr 1; clear hfs hgs hft hgt hst2; (first | rw [beq_iff_eq, zP] | exfalso); (simp [goodK, plainC, firstK, ← UInt8.toNat_inj] at * <;> omega)))) (.bool _) Vv
           ·
            refine qM V V V <| qC V V V V V <| qP V V V V <| qP V V V V <| qO V <| zT1 V zR0 V V <| qP V V V V <| qA V V V <| qN <| zH ?_
            exact zT (.inr V) zA1 V (.of_eq (by (congr 1; clear hfs hgs hft hgt hst2; (first | rw [beq_iff_eq, zP] | exfalso); (simp [goodK, plainC, firstK, ← UInt8.toNat_inj] at * <;> omega)))) (.bool _) Vv
       ·
        refine qS V <| qP V V V V <| qM V V V <| qT V V V V <| qT V V V V <| qT V V V V <| qT V V V V <| qS V <| qS V <| qP V V V V <| qO V <| zT1 V zR0 V V <| qP V V V V <| qA V V V ?_
        refine qN <| zH ?_
        exact zT (.inr V) zA1 V (.of_eq (by (congr 1; clear hfs hgs hft hgt hst2; (first | rw [beq_iff_eq, zP] | exfalso); (simp [goodK, plainC, firstK, ← UInt8.toNat_inj] at * <;> omega)))) (.bool _) Vv
      ·
       refine qT V V V V <| qT V V V V <| qT V V V V <| qT V V V V <| qT V V V V <| qT V V V V <| qS V <| qS V <| qP V V V V <| qA V V V ?_
       refine qN <| zH ?_
       exact zT (.inr V) zA1 V (.of_eq (by (congr 1; clear hfs hgs hft hgt hst2; (first | rw [beq_iff_eq, zP] | exfalso); (simp [goodK, plainC, firstK, ← UInt8.toNat_inj] at * <;> omega)))) (.bool _) Vv
     ·
      refine qM V V V <| qC V V V V V <| qM V V V ?_
      refine zH0 (fun h66 => ?_) (fun h66 => ?_)
      ·
       refine qM V V V <| qC V V V V V <| qP V V V V <| qP V V V V <| qA V V V <| qN <| zB ?_
       refine zW0 [7, 8] [_, S ++ [MObj.cells (((kyB k).set (a % k) c).map encY), .cells (encTb (fn, fl, .mk fk fi)).cells, .cells [.str ⟨#[]⟩, .int .i64 0, .int .i64 0, .lst0]], S ++ [MObj.cells (((kyB k).set (a % k) c).map encY), .cells (encTb (fn, fl, .mk fk fi)).cells, .cells (encTb (gn, gl, .mk gk gi)).cells]] mo (by decide) V V V V ?_
       refine zN V V (.cons (zT0 V V V co26 (zB1 _)) (.cons (zT0 V V V co26 (zB1 _)) (.nil))) <| zN V V (.cons (zY V V Vv) (.cons (zY V V Vv) (.nil))) <| zN V V (.cons (zD2 (l := (kyB k).set (a % k) c) V zS0 zC1 zL0 (by rw [List.length_set, zE3]; rfl) (zM2 V) (by exact zE2 _) Vv) (.cons (zD2 (l := (kyB k).set (a % k) c) V zS0 zC1 zL0 (by rw [List.length_set, zE3]; rfl) (zM2 V) (by exact zE2 _) Vv) (.nil))) ?_
       refine zN V V (.cons (zT0 V V V co20 (hgs _)) (.cons (zT0 V V V co20 (hgs _)) (.nil))) <| zN V V (.cons (zY V V Vv) (.cons (zY V V Vv) (.nil))) <| zN V V (.cons (zS V V V Vv) (.cons (zS V V V Vv) (.nil))) <| zN V V (.cons (zS V V V Vv) (.cons (zS V V V Vv) (.cons (zS V V V Vv) (.nil)))) <| zV0 V V V V (zM0 V zm55 V V Vv) <| zV0 V V V V (zZ V V V V sz55 V V (zA V) V Vv) <| dO V V V (zZ0 V V Vv) <| zQ0 <| zB <| qR V <| qM V V V <| qM V V V <| qO V <| zT1 V zR0 V V <| qM V V V ?_
       refine zH0 (fun h81 => ?_) (fun h81 => ?_)
       ·
        refine qM V V V <| qM V V V <| qM V V V ?_
        refine zH0 (fun h84 => ?_) (fun h84 => ?_)
        ·
         refine qM V V V <| qP V V V V <| qM V V V ?_
         refine zH0 (fun h87 => ?_) (fun h87 => ?_)
         ·
          refine qM V V V <| qC V V V V V <| qM V V V ?_
          refine zH0 (fun h90 => ?_) (fun h90 => ?_)
          ·
           refine qS V <| qS V <| qP V V V V <| qM V V V <| qS V <| qS V <| qP V V V V <| qM V V V <| qS V <| qS V <| qP V V V V <| qM V V V <| qS V <| qS V <| qP V V V V <| qP V V V V <| qO V <| zT1 V zR0 V V <| qP V V V V <| qA V V V ?_
           refine qN <| zH ?_
           exact zT (.inr V) zA1 V (.of_eq (by (congr 1; clear hfs hgs hft hgt hst2; (first | rw [beq_iff_eq, zP] | exfalso); (simp [goodK, plainC, firstK, ← UInt8.toNat_inj] at * <;> omega)))) (.bool _) Vv
          ·
           refine qM V V V <| qC V V V V V <| qP V V V V <| qM V V V ?_
           refine zH0 (fun h94 => ?_) (fun h94 => ?_)
           ·
            refine qS V <| qS V <| qP V V V V <| qM V V V <| qS V <| qS V <| qP V V V V <| qM V V V <| qS V <| qS V <| qP V V V V <| qP V V V V <| qO V <| zT1 V zR0 V V <| qP V V V V <| qA V V V <| qN <| zH ?_
            exact zT (.inr V) zA1 V (.of_eq (by (congr 1; clear hfs hgs hft hgt hst2; (first | rw [beq_iff_eq, zP] | exfalso); (simp [goodK, plainC, firstK, ← UInt8.toNat_inj] at * <;> omega)))) (.bool _) Vv
           ·
            refine qM V V V <| qC V V V V V <| qP V V V V <| qM V V V ?_
            refine zH0 (fun h98 => ?_) (fun h98 => ?_)
            ·
             refine qS V <| qS V <| qP V V V V <| qM V V V <| qS V <| qS V <| qP V V V V <| qP V V V V <| qO V <| zT1 V zR0 V V <| qP V V V V <| qA V V V <| qN <| zH ?_
             exact zT (.inr V) zA1 V (.of_eq (by (congr 1; clear hfs hgs hft hgt hst2; (first | rw [beq_iff_eq, zP] | exfalso); (simp [goodK, plainC, firstK, ← UInt8.toNat_inj] at * <;> omega)))) (.bool _) Vv
            ·
             refine qM V V V <| qC V V V V V <| qP V V V V <| qM V V V ?_
             refine zH0 (fun h102 => ?_) (fun h102 => ?_)
             ·
              refine qS V <| qS V <| qP V V V V <| qP V V V V <| qO V <| zT1 V zR0 V V <| qP V V V V <| qA V V V <| qN <| zH ?_
              exact zT (.inr V) zA1 V (.of_eq (by (congr 1; clear hfs hgs hft hgt hst2; (first | rw [beq_iff_eq, zP] | exfalso); (simp [goodK, plainC, firstK, ← UInt8.toNat_inj] at * <;> omega)))) (.bool _) Vv
             ·
              refine qM V V V <| qC V V V V V <| qP V V V V <| qP V V V V <| qO V <| zT1 V zR0 V V <| qP V V V V <| qA V V V <| qN <| zH ?_
              exact zT (.inr V) zA1 V (.of_eq (by (congr 1; clear hfs hgs hft hgt hst2; (first | rw [beq_iff_eq, zP] | exfalso); (simp [goodK, plainC, firstK, ← UInt8.toNat_inj] at * <;> omega)))) (.bool _) Vv
         ·
          refine qT V V V V <| qT V V V V <| qT V V V V <| qT V V V V <| qS V <| qS V <| qP V V V V <| qO V <| zT1 V zR0 V V <| qP V V V V <| qA V V V <| qN <| zH ?_
          exact zT (.inr V) zA1 V (.of_eq (by (congr 1; clear hfs hgs hft hgt hst2; (first | rw [beq_iff_eq, zP] | exfalso); (simp [goodK, plainC, firstK, ← UInt8.toNat_inj] at * <;> omega)))) (.bool _) Vv
        ·
         refine qS V <| qP V V V V <| qM V V V <| qT V V V V <| qT V V V V <| qT V V V V <| qT V V V V <| qS V <| qS V <| qP V V V V <| qO V <| zT1 V zR0 V V <| qP V V V V <| qA V V V ?_
         refine qN <| zH ?_
         exact zT (.inr V) zA1 V (.of_eq (by (congr 1; clear hfs hgs hft hgt hst2; (first | rw [beq_iff_eq, zP] | exfalso); (simp [goodK, plainC, firstK, ← UInt8.toNat_inj] at * <;> omega)))) (.bool _) Vv
       ·
        refine qT V V V V <| qT V V V V <| qT V V V V <| qT V V V V <| qT V V V V <| qT V V V V <| qS V <| qS V <| qP V V V V <| qA V V V ?_
        refine qN <| zH ?_
        exact zT (.inr V) zA1 V (.of_eq (by (congr 1; clear hfs hgs hft hgt hst2; (first | rw [beq_iff_eq, zP] | exfalso); (simp [goodK, plainC, firstK, ← UInt8.toNat_inj] at * <;> omega)))) (.bool _) Vv
      ·
       refine qS V <| qS V <| qP V V V V <| qP V V V V <| qA V V V <| qN <| zB ?_
       refine zW0 [7, 8] [_, S ++ [MObj.cells (((kyB k).set (a % k) c).map encY), .cells (encTb (fn, fl, .mk fk fi)).cells, .cells [.str ⟨#[]⟩, .int .i64 0, .int .i64 0, .lst0]], S ++ [MObj.cells (((kyB k).set (a % k) c).map encY), .cells (encTb (fn, fl, .mk fk fi)).cells, .cells (encTb (gn, gl, .mk gk gi)).cells]] mo (by decide) V V V V ?_
       refine zN V V (.cons (zT0 V V V co26 (zB1 _)) (.cons (zT0 V V V co26 (zB1 _)) (.nil))) <| zN V V (.cons (zY V V Vv) (.cons (zY V V Vv) (.nil))) <| zN V V (.cons (zD2 (l := (kyB k).set (a % k) c) V zS0 zC1 zL0 (by rw [List.length_set, zE3]; rfl) (zM2 V) (by exact zE2 _) Vv) (.cons (zD2 (l := (kyB k).set (a % k) c) V zS0 zC1 zL0 (by rw [List.length_set, zE3]; rfl) (zM2 V) (by exact zE2 _) Vv) (.nil))) ?_
       refine zN V V (.cons (zT0 V V V co20 (hgs _)) (.cons (zT0 V V V co20 (hgs _)) (.nil))) <| zN V V (.cons (zY V V Vv) (.cons (zY V V Vv) (.nil))) <| zN V V (.cons (zS V V V Vv) (.cons (zS V V V Vv) (.nil))) <| zN V V (.cons (zS V V V Vv) (.cons (zS V V V Vv) (.cons (zS V V V Vv) (.nil)))) <| zV0 V V V V (zM0 V zm55 V V Vv) <| zV0 V V V V (zZ V V V V sz55 V V (zA V) V Vv) <| dO V V V (zZ0 V V Vv) <| zQ0 <| zB <| qR V <| qM V V V <| qM V V V <| qO V <| zT1 V zR0 V V <| qM V V V ?_
       refine zH0 (fun h81 => ?_) (fun h81 => ?_)
       ·
        refine qM V V V <| qM V V V <| qM V V V ?_
        refine zH0 (fun h84 => ?_) (fun h84 => ?_)
        ·
         refine qM V V V <| qP V V V V <| qM V V V <| qT V V V V <| qT V V V V <| qT V V V V <| qT V V V V <| qS V <| qS V <| qP V V V V <| qO V <| zT1 V zR0 V V <| qP V V V V ?_
         refine qA V V V <| qN <| zH ?_
         exact zT (.inr V) zA1 V (.of_eq (by (congr 1; clear hfs hgs hft hgt hst2; (first | rw [beq_iff_eq, zP] | exfalso); (simp [goodK, plainC, firstK, ← UInt8.toNat_inj] at * <;> omega)))) (.bool _) Vv
        ·
         refine qS V <| qP V V V V <| qM V V V <| qT V V V V <| qT V V V V <| qT V V V V <| qT V V V V <| qS V <| qS V <| qP V V V V <| qO V <| zT1 V zR0 V V <| qP V V V V <| qA V V V ?_
         refine qN <| zH ?_
         exact zT (.inr V) zA1 V (.of_eq (by (congr 1; clear hfs hgs hft hgt hst2; (first | rw [beq_iff_eq, zP] | exfalso); (simp [goodK, plainC, firstK, ← UInt8.toNat_inj] at * <;> omega)))) (.bool _) Vv
       ·
        refine qT V V V V <| qT V V V V <| qT V V V V <| qT V V V V <| qT V V V V <| qT V V V V <| qS V <| qS V <| qP V V V V <| qA V V V ?_
        refine qN <| zH ?_
        exact zT (.inr V) zA1 V (.of_eq (by (congr 1; clear hfs hgs hft hgt hst2; (first | rw [beq_iff_eq, zP] | exfalso); (simp [goodK, plainC, firstK, ← UInt8.toNat_inj] at * <;> omega)))) (.bool _) Vv
    ·
     refine qS V <| qS V <| qP V V V V <| qM V V V <| qM V V V <| qC V V V V V <| qM V V V ?_
     refine zH0 (fun h66 => ?_) (fun h66 => ?_)
     ·
      refine qM V V V <| qC V V V V V <| qP V V V V <| qP V V V V <| qA V V V <| qN <| zB ?_
      refine zW0 [7, 8] [_, S ++ [MObj.cells (((kyB k).set (a % k) c).map encY), .cells (encTb (fn, fl, .mk fk fi)).cells, .cells [.str ⟨#[]⟩, .int .i64 0, .int .i64 0, .lst0]], S ++ [MObj.cells (((kyB k).set (a % k) c).map encY), .cells (encTb (fn, fl, .mk fk fi)).cells, .cells (encTb (gn, gl, .mk gk gi)).cells]] mo (by decide) V V V V ?_
      refine zN V V (.cons (zT0 V V V co26 (zB1 _)) (.cons (zT0 V V V co26 (zB1 _)) (.nil))) <| zN V V (.cons (zY V V Vv) (.cons (zY V V Vv) (.nil))) <| zN V V (.cons (zD2 (l := (kyB k).set (a % k) c) V zS0 zC1 zL0 (by rw [List.length_set, zE3]; rfl) (zM2 V) (by exact zE2 _) Vv) (.cons (zD2 (l := (kyB k).set (a % k) c) V zS0 zC1 zL0 (by rw [List.length_set, zE3]; rfl) (zM2 V) (by exact zE2 _) Vv) (.nil))) ?_
      refine zN V V (.cons (zT0 V V V co20 (hgs _)) (.cons (zT0 V V V co20 (hgs _)) (.nil))) <| zN V V (.cons (zY V V Vv) (.cons (zY V V Vv) (.nil))) <| zN V V (.cons (zS V V V Vv) (.cons (zS V V V Vv) (.nil))) <| zN V V (.cons (zS V V V Vv) (.cons (zS V V V Vv) (.cons (zS V V V Vv) (.nil)))) <| zV0 V V V V (zM0 V zm55 V V Vv) <| zV0 V V V V (zZ V V V V sz55 V V (zA V) V Vv) <| dO V V V (zZ0 V V Vv) <| zQ0 <| zB <| qR V <| qM V V V <| qM V V V <| qO V <| zT1 V zR0 V V <| qM V V V ?_
      refine zH0 (fun h81 => ?_) (fun h81 => ?_)
      ·
       refine qM V V V <| qM V V V <| qM V V V ?_
       refine zH0 (fun h84 => ?_) (fun h84 => ?_)
       ·
        refine qM V V V <| qP V V V V <| qM V V V ?_
        refine zH0 (fun h87 => ?_) (fun h87 => ?_)
        ·
         refine qM V V V <| qC V V V V V <| qM V V V ?_
         refine zH0 (fun h90 => ?_) (fun h90 => ?_)
         ·
          refine qS V <| qS V <| qP V V V V <| qM V V V <| qS V <| qS V <| qP V V V V <| qM V V V <| qS V <| qS V <| qP V V V V <| qM V V V <| qS V <| qS V <| qP V V V V <| qP V V V V <| qO V <| zT1 V zR0 V V <| qP V V V V <| qA V V V ?_
          refine qN <| zH ?_
          exact zT (.inr V) zA1 V (.of_eq (by (congr 1; clear hfs hgs hft hgt hst2; (first | rw [beq_iff_eq, zP] | exfalso); (simp [goodK, plainC, firstK, ← UInt8.toNat_inj] at * <;> omega)))) (.bool _) Vv
         ·
          refine qM V V V <| qC V V V V V <| qP V V V V <| qM V V V ?_
          refine zH0 (fun h94 => ?_) (fun h94 => ?_)
          ·
           refine qS V <| qS V <| qP V V V V <| qM V V V <| qS V <| qS V <| qP V V V V <| qM V V V <| qS V <| qS V <| qP V V V V <| qP V V V V <| qO V <| zT1 V zR0 V V <| qP V V V V <| qA V V V <| qN <| zH ?_
           exact zT (.inr V) zA1 V (.of_eq (by (congr 1; clear hfs hgs hft hgt hst2; (first | rw [beq_iff_eq, zP] | exfalso); (simp [goodK, plainC, firstK, ← UInt8.toNat_inj] at * <;> omega)))) (.bool _) Vv
          ·
           refine qM V V V <| qC V V V V V <| qP V V V V <| qM V V V ?_
           refine zH0 (fun h98 => ?_) (fun h98 => ?_)
           ·
            refine qS V <| qS V <| qP V V V V <| qM V V V <| qS V <| qS V <| qP V V V V <| qP V V V V <| qO V <| zT1 V zR0 V V <| qP V V V V <| qA V V V <| qN <| zH ?_
            exact zT (.inr V) zA1 V (.of_eq (by (congr 1; clear hfs hgs hft hgt hst2; (first | rw [beq_iff_eq, zP] | exfalso); (simp [goodK, plainC, firstK, ← UInt8.toNat_inj] at * <;> omega)))) (.bool _) Vv
           ·
            refine qM V V V <| qC V V V V V <| qP V V V V <| qM V V V ?_
            refine zH0 (fun h102 => ?_) (fun h102 => ?_)
            ·
             refine qS V <| qS V <| qP V V V V <| qP V V V V <| qO V <| zT1 V zR0 V V <| qP V V V V <| qA V V V <| qN <| zH ?_
             exact zT (.inr V) zA1 V (.of_eq (by (congr 1; clear hfs hgs hft hgt hst2; (first | rw [beq_iff_eq, zP] | exfalso); (simp [goodK, plainC, firstK, ← UInt8.toNat_inj] at * <;> omega)))) (.bool _) Vv
            ·
             refine qM V V V <| qC V V V V V <| qP V V V V <| qP V V V V <| qO V <| zT1 V zR0 V V <| qP V V V V <| qA V V V <| qN <| zH ?_
             exact zT (.inr V) zA1 V (.of_eq (by (congr 1; clear hfs hgs hft hgt hst2; (first | rw [beq_iff_eq, zP] | exfalso); (simp [goodK, plainC, firstK, ← UInt8.toNat_inj] at * <;> omega)))) (.bool _) Vv
        ·
         refine qT V V V V <| qT V V V V <| qT V V V V <| qT V V V V <| qS V <| qS V <| qP V V V V <| qO V <| zT1 V zR0 V V <| qP V V V V <| qA V V V <| qN <| zH ?_
         exact zT (.inr V) zA1 V (.of_eq (by (congr 1; clear hfs hgs hft hgt hst2; (first | rw [beq_iff_eq, zP] | exfalso); (simp [goodK, plainC, firstK, ← UInt8.toNat_inj] at * <;> omega)))) (.bool _) Vv
       ·
        refine qS V <| qP V V V V <| qM V V V <| qT V V V V <| qT V V V V <| qT V V V V <| qT V V V V <| qS V <| qS V <| qP V V V V <| qO V <| zT1 V zR0 V V <| qP V V V V <| qA V V V ?_
        refine qN <| zH ?_
        exact zT (.inr V) zA1 V (.of_eq (by (congr 1; clear hfs hgs hft hgt hst2; (first | rw [beq_iff_eq, zP] | exfalso); (simp [goodK, plainC, firstK, ← UInt8.toNat_inj] at * <;> omega)))) (.bool _) Vv
      ·
       refine qT V V V V <| qT V V V V <| qT V V V V <| qT V V V V <| qT V V V V <| qT V V V V <| qS V <| qS V <| qP V V V V <| qA V V V ?_
       refine qN <| zH ?_
       exact zT (.inr V) zA1 V (.of_eq (by (congr 1; clear hfs hgs hft hgt hst2; (first | rw [beq_iff_eq, zP] | exfalso); (simp [goodK, plainC, firstK, ← UInt8.toNat_inj] at * <;> omega)))) (.bool _) Vv
     ·
      refine qS V <| qS V <| qP V V V V <| qP V V V V <| qA V V V <| qN <| zB ?_
      refine zW0 [7, 8] [_, S ++ [MObj.cells (((kyB k).set (a % k) c).map encY), .cells (encTb (fn, fl, .mk fk fi)).cells, .cells [.str ⟨#[]⟩, .int .i64 0, .int .i64 0, .lst0]], S ++ [MObj.cells (((kyB k).set (a % k) c).map encY), .cells (encTb (fn, fl, .mk fk fi)).cells, .cells (encTb (gn, gl, .mk gk gi)).cells]] mo (by decide) V V V V ?_
      refine zN V V (.cons (zT0 V V V co26 (zB1 _)) (.cons (zT0 V V V co26 (zB1 _)) (.nil))) <| zN V V (.cons (zY V V Vv) (.cons (zY V V Vv) (.nil))) <| zN V V (.cons (zD2 (l := (kyB k).set (a % k) c) V zS0 zC1 zL0 (by rw [List.length_set, zE3]; rfl) (zM2 V) (by exact zE2 _) Vv) (.cons (zD2 (l := (kyB k).set (a % k) c) V zS0 zC1 zL0 (by rw [List.length_set, zE3]; rfl) (zM2 V) (by exact zE2 _) Vv) (.nil))) ?_
      refine zN V V (.cons (zT0 V V V co20 (hgs _)) (.cons (zT0 V V V co20 (hgs _)) (.nil))) <| zN V V (.cons (zY V V Vv) (.cons (zY V V Vv) (.nil))) <| zN V V (.cons (zS V V V Vv) (.cons (zS V V V Vv) (.nil))) <| zN V V (.cons (zS V V V Vv) (.cons (zS V V V Vv) (.cons (zS V V V Vv) (.nil)))) <| zV0 V V V V (zM0 V zm55 V V Vv) <| zV0 V V V V (zZ V V V V sz55 V V (zA V) V Vv) <| dO V V V (zZ0 V V Vv) <| zQ0 <| zB <| qR V <| qM V V V <| qM V V V <| qO V <| zT1 V zR0 V V <| qM V V V ?_
      refine zH0 (fun h81 => ?_) (fun h81 => ?_)
      ·
       refine qM V V V <| qM V V V <| qM V V V ?_
       refine zH0 (fun h84 => ?_) (fun h84 => ?_)
       ·
        refine qM V V V <| qP V V V V <| qM V V V <| qT V V V V <| qT V V V V <| qT V V V V <| qT V V V V <| qS V <| qS V <| qP V V V V <| qO V <| zT1 V zR0 V V <| qP V V V V ?_
        refine qA V V V <| qN <| zH ?_
        exact zT (.inr V) zA1 V (.of_eq (by (congr 1; clear hfs hgs hft hgt hst2; (first | rw [beq_iff_eq, zP] | exfalso); (simp [goodK, plainC, firstK, ← UInt8.toNat_inj] at * <;> omega)))) (.bool _) Vv
       ·
        refine qS V <| qP V V V V <| qM V V V <| qT V V V V <| qT V V V V <| qT V V V V <| qT V V V V <| qS V <| qS V <| qP V V V V <| qO V <| zT1 V zR0 V V <| qP V V V V <| qA V V V ?_
        refine qN <| zH ?_
        exact zT (.inr V) zA1 V (.of_eq (by (congr 1; clear hfs hgs hft hgt hst2; (first | rw [beq_iff_eq, zP] | exfalso); (simp [goodK, plainC, firstK, ← UInt8.toNat_inj] at * <;> omega)))) (.bool _) Vv
      ·
       refine qT V V V V <| qT V V V V <| qT V V V V <| qT V V V V <| qT V V V V <| qT V V V V <| qS V <| qS V <| qP V V V V <| qA V V V ?_
       refine qN <| zH ?_
       exact zT (.inr V) zA1 V (.of_eq (by (congr 1; clear hfs hgs hft hgt hst2; (first | rw [beq_iff_eq, zP] | exfalso); (simp [goodK, plainC, firstK, ← UInt8.toNat_inj] at * <;> omega)))) (.bool _) Vv
  ·
   refine qS V <| qS V <| qP V V V V <| qA V V V <| qN <| zB ?_
   refine zW0 [7, 8] [_, S ++ [MObj.cells ((kyB k).map encY), .cells [.str ⟨#[]⟩, .int .i64 0, .int .i64 0, .lst0]], S ++ [MObj.cells ((kyB k).map encY), .cells (encTb (fn, fl, .mk fk fi)).cells]] mo (by decide) V V V V ?_
   refine zN V V (.cons (zT0 V V V co26 (zB1 _)) (.cons (zT0 V V V co26 (zB1 _)) (.nil))) <| zN V V (.cons (zY V V Vv) (.cons (zY V V Vv) (.nil))) <| zN V V (.cons (zD2 (l := kyB k) V zS0 zC1 zL0 (by rw [zE3]; rfl) (zM2 V) (by exact zE2 _) Vv) (.cons (zD2 (l := kyB k) V zS0 zC1 zL0 (by rw [zE3]; rfl) (zM2 V) (by exact zE2 _) Vv) (.nil))) ?_
   refine zN V V (.cons (zT0 V V V co20 (hfs _)) (.cons (zT0 V V V co20 (hfs _)) (.nil))) <| zN V V (.cons (zY V V Vv) (.cons (zY V V Vv) (.nil))) <| zN V V (.cons (zS V V V Vv) (.cons (zS V V V Vv) (.nil))) <| zN V V (.cons (zS V V V Vv) (.cons (zS V V V Vv) (.cons (zS V V V Vv) (.nil)))) <| zV0 V V V V (zM0 V zm55 V V Vv) <| zV0 V V V V (zZ V V V V sz55 V V (zA V) V Vv) <| dO V V V (zZ0 V V Vv) <| zQ0 <| zB <| zB <| qR V <| qM V V V <| qC V V V V V <| qN ?_
   refine zM V (fun h46 => ?_) (fun h46 => ?_)
   ·
    have hk0 : k = 0 := by simpa using h46
    refine zB <| qR V <| qM V V V <| qO V <| zF1 V V <| qA V V V <| qN <| zH ?_
    exact zT (.inr V) zA1 V (.of_eq (by rw [hk0]; rfl)) (.bool _) Vv
   ·
    have hk0 : ¬ k = 0 := by simpa using h46
    have hmod := Nat.mod_lt a (show 0 < k by omega)
    rw [keys_c c hmod] at hgs
    refine zX <| zB <| qR V <| qM V V V <| qO V <| zL3 V zC1 zX2 V (wrap_i64 (by omega)) ?_
    refine qM V V V <| qO V <| op_rem V V V (by omega) (nat_tmod a k) ?_
    refine qA V V V <| qN <| zB <| qR V <| qM V V V <| qM V V V <| qM V V V <| qO V <| op_indexAddr_vec V zS0 sz5 V V V hmod <| qO V <| zK4 V V V (zM2 V) sz5 V V (by simp [kyB]; omega) ?_
    have hst2 : (S ++ [MObj.cells ((kyB k).map encY), .cells (encTb (fn, fl, .mk fk fi)).cells]).set S.length (.cells (setMany ((kyB k).map encY) (0 + a % k * 1) (MV.int .u8 (c.toNat : Int)).cells)) = S ++ [MObj.cells (((kyB k).set (a % k) c).map encY), .cells (encTb (fn, fl, .mk fk fi)).cells] := by
     rw [show (MV.int .u8 (c.toNat : Int)).cells = [MV.int .u8 (c.toNat : Int)] from rfl, bytes_setQ (by rw [zE3]; exact hmod)]
     exact own_set0
    rw [hst2]
    refine qN <| zB <| qR V <| qM V V V <| qC V V V V V <| qM V V V ?_
    refine zH0 (fun h59 => ?_) (fun h59 => ?_)
    ·
     refine qM V V V <| qC V V V V V <| qP V V V V <| qM V V V ?_
     refine zH0 (fun h63 => ?_) (fun h63 => ?_)
     ·
      refine qT V V V V <| qS V <| qS V <| qP V V V V <| qA V V V <| qN <| zB ?_
      refine zW0 [7, 8] [_, S ++ [MObj.cells (((kyB k).set (a % k) c).map encY), .cells (encTb (fn, fl, .mk fk fi)).cells, .cells [.str ⟨#[]⟩, .int .i64 0, .int .i64 0, .lst0]], S ++ [MObj.cells (((kyB k).set (a % k) c).map encY), .cells (encTb (fn, fl, .mk fk fi)).cells, .cells (encTb (gn, gl, .mk gk gi)).cells]] mo (by decide) V V V V ?_
      refine zN V V (.cons (zT0 V V V co26 (zB1 _)) (.cons (zT0 V V V co26 (zB1 _)) (.nil))) <| zN V V (.cons (zY V V Vv) (.cons (zY V V Vv) (.nil))) <| zN V V (.cons (zD2 (l := (kyB k).set (a % k) c) V zS0 zC1 zL0 (by rw [List.length_set, zE3]; rfl) (zM2 V) (by exact zE2 _) Vv) (.cons (zD2 (l := (kyB k).set (a % k) c) V zS0 zC1 zL0 (by rw [List.length_set, zE3]; rfl) (zM2 V) (by exact zE2 _) Vv) (.nil))) ?_
      refine zN V V (.cons (zT0 V V V co20 (hgs _)) (.cons (zT0 V V V co20 (hgs _)) (.nil))) <| zN V V (.cons (zY V V Vv) (.cons (zY V V Vv) (.nil))) <| zN V V (.cons (zS V V V Vv) (.cons (zS V V V Vv) (.nil))) <| zN V V (.cons (zS V V V Vv) (.cons (zS V V V Vv) (.cons (zS V V V Vv) (.nil)))) <| zV0 V V V V (zM0 V zm55 V V Vv) <| zV0 V V V V (zZ V V V V sz55 V V (zA V) V Vv) <| dO V V V (zZ0 V V Vv) <| zQ0 <| zB <| qR V <| qM V V V <| qM V V V <| qO V <| zT1 V zR0 V V <| qM V V V ?_
      refine zH0 (fun h81 => ?_) (fun h81 => ?_)
      ·
       refine qM V V V <| qM V V V <| qM V V V <| qS V <| qP V V V V <| qM V V V <| qT V V V V <| qT V V V V <| qT V V V V <| qT V V V V <| qS V <| qS V <| qP V V V V ?_
       refine qO V <| zT1 V zR0 V V <| qP V V V V <| qA V V V <| qN <| zH ?_
       exact zT (.inr V) zA1 V (.of_eq (by (congr 1; clear hfs hgs hft hgt hst2; (first | rw [beq_iff_eq, zP] | exfalso); (simp [goodK, plainC, firstK, ← UInt8.toNat_inj] at * <;> omega)))) (.bool _) Vv
      ·
       refine qT V V V V <| qT V V V V <| qT V V V V <| qT V V V V <| qT V V V V <| qT V V V V <| qS V <| qS V <| qP V V V V <| qA V V V ?_
       refine qN <| zH ?_
       exact zT (.inr V) zA1 V (.of_eq (by (congr 1; clear hfs hgs hft hgt hst2; (first | rw [beq_iff_eq, zP] | exfalso); (simp [goodK, plainC, firstK, ← UInt8.toNat_inj] at * <;> omega)))) (.bool _) Vv
     ·
      refine qM V V V <| qC V V V V V <| qM V V V ?_
      refine zH0 (fun h66 => ?_) (fun h66 => ?_)
      ·
       refine qM V V V <| qC V V V V V <| qP V V V V <| qP V V V V <| qA V V V <| qN <| zB ?_
       refine zW0 [7, 8] [_, S ++ [MObj.cells (((kyB k).set (a % k) c).map encY), .cells (encTb (fn, fl, .mk fk fi)).cells, .cells [.str ⟨#[]⟩, .int .i64 0, .int .i64 0, .lst0]], S ++ [MObj.cells (((kyB k).set (a % k) c).map encY), .cells (encTb (fn, fl, .mk fk fi)).cells, .cells (encTb (gn, gl, .mk gk gi)).cells]] mo (by decide) V V V V ?_
       refine zN V V (.cons (zT0 V V V co26 (zB1 _)) (.cons (zT0 V V V co26 (zB1 _)) (.nil))) <| zN V V (.cons (zY V V Vv) (.cons (zY V V Vv) (.nil))) <| zN V V (.cons (zD2 (l := (kyB k).set (a % k) c) V zS0 zC1 zL0 (by rw [List.length_set, zE3]; rfl) (zM2 V) (by exact zE2 _) Vv) (.cons (zD2 (l := (kyB k).set (a % k) c) V zS0 zC1 zL0 (by rw [List.length_set, zE3]; rfl) (zM2 V) (by exact zE2 _) Vv) (.nil))) ?_
       refine zN V V (.cons (zT0 V V V co20 (hgs _)) (.cons (zT0 V V V co20 (hgs _)) (.nil))) <| zN V V (.cons (zY V V Vv) (.cons (zY V V Vv) (.nil))) <| zN V V (.cons (zS V V V Vv) (.cons (zS V V V Vv) (.nil))) <| zN V V (.cons (zS V V V Vv) (.cons (zS V V V Vv) (.cons (zS V V V Vv) (.nil)))) <| zV0 V V V V (zM0 V zm55 V V Vv) <| zV0 V V V V (zZ V V V V sz55 V V (zA V) V Vv) <| dO V V V (zZ0 V V Vv) <| zQ0 <| zB <| qR V <| qM V V V <| qM V V V <| qO V <| zT1 V zR0 V V <| qM V V V ?_
       refine zH0 (fun h81 => ?_) (fun h81 => ?_)
       ·
        refine qM V V V <| qM V V V <| qM V V V <| qS V <| qP V V V V <| qM V V V <| qT V V V V <| qT V V V V <| qT V V V V <| qT V V V V <| qS V <| qS V <| qP V V V V ?_
        refine qO V <| zT1 V zR0 V V <| qP V V V V <| qA V V V <| qN <| zH ?_
        exact zT (.inr V) zA1 V (.of_eq (by (congr 1; clear hfs hgs hft hgt hst2; (first | rw [beq_iff_eq, zP] | exfalso); (simp [goodK, plainC, firstK, ← UInt8.toNat_inj] at * <;> omega)))) (.bool _) Vv
       ·
        refine qT V V V V <| qT V V V V <| qT V V V V <| qT V V V V <| qT V V V V <| qT V V V V <| qS V <| qS V <| qP V V V V <| qA V V V ?_
        refine qN <| zH ?_
        exact zT (.inr V) zA1 V (.of_eq (by (congr 1; clear hfs hgs hft hgt hst2; (first | rw [beq_iff_eq, zP] | exfalso); (simp [goodK, plainC, firstK, ← UInt8.toNat_inj] at * <;> omega)))) (.bool _) Vv
      ·
       refine qS V <| qS V <| qP V V V V <| qP V V V V <| qA V V V <| qN <| zB ?_
       refine zW0 [7, 8] [_, S ++ [MObj.cells (((kyB k).set (a % k) c).map encY), .cells (encTb (fn, fl, .mk fk fi)).cells, .cells [.str ⟨#[]⟩, .int .i64 0, .int .i64 0, .lst0]], S ++ [MObj.cells (((kyB k).set (a % k) c).map encY), .cells (encTb (fn, fl, .mk fk fi)).cells, .cells (encTb (gn, gl, .mk gk gi)).cells]] mo (by decide) V V V V ?_
       refine zN V V (.cons (zT0 V V V co26 (zB1 _)) (.cons (zT0 V V V co26 (zB1 _)) (.nil))) <| zN V V (.cons (zY V V Vv) (.cons (zY V V Vv) (.nil))) <| zN V V (.cons (zD2 (l := (kyB k).set (a % k) c) V zS0 zC1 zL0 (by rw [List.length_set, zE3]; rfl) (zM2 V) (by exact zE2 _) Vv) (.cons (zD2 (l := (kyB k).set (a % k) c) V zS0 zC1 zL0 (by rw [List.length_set, zE3]; rfl) (zM2 V) (by exact zE2 _) Vv) (.nil))) ?_
       refine zN V V (.cons (zT0 V V V co20 (hgs _)) (.cons (zT0 V V V co20 (hgs _)) (.nil))) <| zN V V (.cons (zY V V Vv) (.cons (zY V V Vv) (.nil))) <| zN V V (.cons (zS V V V Vv) (.cons (zS V V V Vv) (.nil))) <| zN V V (.cons (zS V V V Vv) (.cons (zS V V V Vv) (.cons (zS V V V Vv) (.nil)))) <| zV0 V V V V (zM0 V zm55 V V Vv) <| zV0 V V V V (zZ V V V V sz55 V V (zA V) V Vv) <| dO V V V (zZ0 V V Vv) <| zQ0 <| zB <| qR V <| qM V V V <| qM V V V <| qO V <| zT1 V zR0 V V <| qM V V V ?_
       refine zH0 (fun h81 => ?_) (fun h81 => ?_)
       ·
        refine qM V V V <| qM V V V <| qM V V V <| qS V <| qP V V V V <| qM V V V <| qT V V V V <| qT V V V V <| qT V V V V <| qT V V V V <| qS V <| qS V <| qP V V V V ?_
        refine qO V <| zT1 V zR0 V V <| qP V V V V <| qA V V V <| qN <| zH ?_
        exact zT (.inr V) zA1 V (.of_eq (by (congr 1; clear hfs hgs hft hgt hst2; (first | rw [beq_iff_eq, zP] | exfalso); (simp [goodK, plainC, firstK, ← UInt8.toNat_inj] at * <;> omega)))) (.bool _) Vv
       ·
        refine qT V V V V <| qT V V V V <| qT V V V V <| qT V V V V <| qT V V V V <| qT V V V V <| qS V <| qS V <| qP V V V V <| qA V V V ?_
        refine qN <| zH ?_
        exact zT (.inr V) zA1 V (.of_eq (by (congr 1; clear hfs hgs hft hgt hst2; (first | rw [beq_iff_eq, zP] | exfalso); (simp [goodK, plainC, firstK, ← UInt8.toNat_inj] at * <;> omega)))) (.bool _) Vv
    ·
     refine qS V <| qS V <| qP V V V V <| qM V V V <| qM V V V <| qC V V V V V <| qM V V V ?_
     refine zH0 (fun h66 => ?_) (fun h66 => ?_)
     ·
      refine qM V V V <| qC V V V V V <| qP V V V V <| qP V V V V <| qA V V V <| qN <| zB ?_
      refine zW0 [7, 8] [_, S ++ [MObj.cells (((kyB k).set (a % k) c).map encY), .cells (encTb (fn, fl, .mk fk fi)).cells, .cells [.str ⟨#[]⟩, .int .i64 0, .int .i64 0, .lst0]], S ++ [MObj.cells (((kyB k).set (a % k) c).map encY), .cells (encTb (fn, fl, .mk fk fi)).cells, .cells (encTb (gn, gl, .mk gk gi)).cells]] mo (by decide) V V V V ?_
      refine zN V V (.cons (zT0 V V V co26 (zB1 _)) (.cons (zT0 V V V co26 (zB1 _)) (.nil))) <| zN V V (.cons (zY V V Vv) (.cons (zY V V Vv) (.nil))) <| zN V V (.cons (zD2 (l := (kyB k).set (a % k) c) V zS0 zC1 zL0 (by rw [List.length_set, zE3]; rfl) (zM2 V) (by exact zE2 _) Vv) (.cons (zD2 (l := (kyB k).set (a % k) c) V zS0 zC1 zL0 (by rw [List.length_set, zE3]; rfl) (zM2 V) (by exact zE2 _) Vv) (.nil))) ?_
      refine zN V V (.cons (zT0 V V V co20 (hgs _)) (.cons (zT0 V V V co20 (hgs _)) (.nil))) <| zN V V (.cons (zY V V Vv) (.cons (zY V V Vv) (.nil))) <| zN V V (.cons (zS V V V Vv) (.cons (zS V V V Vv) (.nil))) <| zN V V (.cons (zS V V V Vv) (.cons (zS V V V Vv) (.cons (zS V V V Vv) (.nil)))) <| zV0 V V V V (zM0 V zm55 V V Vv) <| zV0 V V V V (zZ V V V V sz55 V V (zA V) V Vv) <| dO V V V (zZ0 V V Vv) <| zQ0 <| zB <| qR V <| qM V V V <| qM V V V <| qO V <| zT1 V zR0 V V <| qM V V V ?_
      refine zH0 (fun h81 => ?_) (fun h81 => ?_)
      ·
       refine qM V V V <| qM V V V <| qM V V V <| qS V <| qP V V V V <| qM V V V <| qT V V V V <| qT V V V V <| qT V V V V <| qT V V V V <| qS V <| qS V <| qP V V V V ?_
       refine qO V <| zT1 V zR0 V V <| qP V V V V <| qA V V V <| qN <| zH ?_
       exact zT (.inr V) zA1 V (.of_eq (by (congr 1; clear hfs hgs hft hgt hst2; (first | rw [beq_iff_eq, zP] | exfalso); (simp [goodK, plainC, firstK, ← UInt8.toNat_inj] at * <;> omega)))) (.bool _) Vv
      ·
       refine qT V V V V <| qT V V V V <| qT V V V V <| qT V V V V <| qT V V V V <| qT V V V V <| qS V <| qS V <| qP V V V V <| qA V V V ?_
       refine qN <| zH ?_
       exact zT (.inr V) zA1 V (.of_eq (by (congr 1; clear hfs hgs hft hgt hst2; (first | rw [beq_iff_eq, zP] | exfalso); (simp [goodK, plainC, firstK, ← UInt8.toNat_inj] at * <;> omega)))) (.bool _) Vv
     ·
      refine qS V <| qS V <| qP V V V V <| qP V V V V <| qA V V V <| qN <| zB ?_
      refine zW0 [7, 8] [_, S ++ [MObj.cells (((kyB k).set (a % k) c).map encY), .cells (encTb (fn, fl, .mk fk fi)).cells, .cells [.str ⟨#[]⟩, .int .i64 0, .int .i64 0, .lst0]], S ++ [MObj.cells (((kyB k).set (a % k) c).map encY), .cells (encTb (fn, fl, .mk fk fi)).cells, .cells (encTb (gn, gl, .mk gk gi)).cells]] mo (by decide) V V V V ?_
      refine zN V V (.cons (zT0 V V V co26 (zB1 _)) (.cons (zT0 V V V co26 (zB1 _)) (.nil))) <| zN V V (.cons (zY V V Vv) (.cons (zY V V Vv) (.nil))) <| zN V V (.cons (zD2 (l := (kyB k).set (a % k) c) V zS0 zC1 zL0 (by rw [List.length_set, zE3]; rfl) (zM2 V) (by exact zE2 _) Vv) (.cons (zD2 (l := (kyB k).set (a % k) c) V zS0 zC1 zL0 (by rw [List.length_set, zE3]; rfl) (zM2 V) (by exact zE2 _) Vv) (.nil))) ?_
      refine zN V V (.cons (zT0 V V V co20 (hgs _)) (.cons (zT0 V V V co20 (hgs _)) (.nil))) <| zN V V (.cons (zY V V Vv) (.cons (zY V V Vv) (.nil))) <| zN V V (.cons (zS V V V Vv) (.cons (zS V V V Vv) (.nil))) <| zN V V (.cons (zS V V V Vv) (.cons (zS V V V Vv) (.cons (zS V V V Vv) (.nil)))) <| zV0 V V V V (zM0 V zm55 V V Vv) <| zV0 V V V V (zZ V V V V sz55 V V (zA V) V Vv) <| dO V V V (zZ0 V V Vv) <| zQ0 <| zB <| qR V <| qM V V V <| qM V V V <| qO V <| zT1 V zR0 V V <| qM V V V ?_
      refine zH0 (fun h81 => ?_) (fun h81 => ?_)
      ·
       refine qM V V V <| qM V V V <| qM V V V <| qS V <| qP V V V V <| qM V V V <| qT V V V V <| qT V V V V <| qT V V V V <| qT V V V V <| qS V <| qS V <| qP V V V V ?_
       refine qO V <| zT1 V zR0 V V <| qP V V V V <| qA V V V <| qN <| zH ?_
       exact zT (.inr V) zA1 V (.of_eq (by (congr 1; clear hfs hgs hft hgt hst2; (first | rw [beq_iff_eq, zP] | exfalso); (simp [goodK, plainC, firstK, ← UInt8.toNat_inj] at * <;> omega)))) (.bool _) Vv
      ·
       refine qT V V V V <| qT V V V V <| qT V V V V <| qT V V V V <| qT V V V V <| qT V V V V <| qS V <| qS V <| qP V V V V <| qA V V V ?_
       refine qN <| zH ?_
       exact zT (.inr V) zA1 V (.of_eq (by (congr 1; clear hfs hgs hft hgt hst2; (first | rw [beq_iff_eq, zP] | exfalso); (simp [goodK, plainC, firstK, ← UInt8.toNat_inj] at * <;> omega)))) (.bool _) Vv
end Go.Proofs.YtciimaabeabkdaaGreatDoor
