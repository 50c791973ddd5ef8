/-
  A law's arguments, read as data, as abstract values; and what a contract of a law gives for its row. No program.
-/
import Derived.Test.YtihpnfpdocnniaaEnd
import Derived.Deep.Slices
import Derived.ChangeSame
import Derived.ProofKit
import Derived.OpenShut
import Derived.ChangeOld
import Derived.SizedLaws
import Derived.Carry
set_option linter.unusedVariables false
set_option linter.unusedSimpArgs false
namespace Go.MV
open Go Go.RowKit Go.ChangeShapes Go.WideShapes Go.Deep

/-- What is known when a law is called: nothing that is there will change. -/
def g0 (W : World) : Gh := { B := W.heap.size, w0 := W, st := fun b => match W.heap[b]? with | some (.cells c _ _) => c.size | _ => 0, bk := fun _ => none, lg := fun _ _ => none }

theorem rel0 (W : World) : Rel (g0 W) [] W := by
  refine ⟨.refl _ _, Nat.le_refl _, fun b hb => ?_, fun _ _ => rfl, fun _ _ _ => rfl, fun _ => none, ⟨fun id o h => (by simp at h), fun i j b h => (by cases h), fun id b h => (by cases h)⟩⟩
  show (match W.heap[b]? with | some (.cells c _ _) => c.size | _ => 0) = 0
  rw [Array.getElem?_eq_none hb]

theorem stab0 {W : World} {ad : Addr} {k : Nat} {v : Value} (h : W.cell? (ad.add k) = some v) (h1 : v.oneCell' = true) : Stab (g0 W) W ad k v := by
  refine ⟨?_, h, h1⟩
  have e := cell_spot h
  rw [e] at h
  show _ < (match W.heap[(ad.add k).block]? with | some (.cells c _ _) => c.size | _ => 0)
  unfold World.cell? at h
  split at h
  · rename_i c t f hc
    simp only [Option.isSome_none, Bool.false_eq_true, if_false] at h
    simp only at hc
    rw [hc]
    exact (Array.getElem?_eq_some_iff.1 h).1
  · cases h

def TyFs (T : TypeId → List MV → Prop) : List Field → List MV → Prop
  | [], l => l = []
  | f :: fs, l => ∃ a b, l = a ++ b ∧ T f.type a ∧ TyFs T fs b

/-- An element of a row: of structs a struct, else its one cell. -/
def ElF (P : Program) (e : TypeId) (x : MV) : Prop := match P.underlying e with | some (.struct _) => x = .agg x.cells | _ => [x] = x.cells
def TyM (P : Program) : Nat → TypeId → List MV → Prop
  | 0, _, _ => False
  | n + 1, t, l =>
    match P.underlying t with
    | some (.int k) => ∃ v, l = [.int k v] ∧ (Lit.int k v).wf = true
    | some .bool => ∃ b, l = [.bool b]
    | some .string => ∃ s, l = [.str s] ∧ s.size ≤ maxLen
    | some (.slice e) => ∃ xs, l = [.lst none (P.cellsOf e) xs] ∧ ∀ x ∈ xs, x.cells.length = P.cellsOf e ∧ TyM P n e x.cells ∧ ElF P e x
    | some (.struct fs) => TyFs (TyM P n) fs.toList l
    | _ => False

def contig (P : Program) (size : Nat) : List Field → Nat → Bool
  | [], off => Nat.beq off size
  | f :: fs, off => Nat.beq f.offset off && contig P size fs (off + P.cellsOf f.type)
/-- A set of types that hold only each other, numbers, bools, texts, slices, structs. -/
def okTypes (P : Program) (ts : List TypeId) : Bool :=
  ts.all fun t => match P.underlying t with
    | some (.int _) | some .bool | some .string => true
    | some (.slice e) => natMem e ts && (match P.underlying e with | some (.struct _) => true | _ => Nat.beq (P.cellsOf e) 1)
    | some (.struct fs) => fs.toList.all (fun f => natMem f.type ts) && contig P (P.cellsOf t) fs.toList 0
    | _ => false

theorem rds_of_fields {P : Program} {W : World} {T : TypeId → List MV → Prop} {cs : List Value} {size : Nat} (hlen : cs.length = size) : ∀ (fs : List Field) (off : Nat), contig P size fs off = true →
    (∀ f ∈ fs, ∃ l, Rds (g0 W) W l ((cs.drop f.offset).take (P.cellsOf f.type)) ∧ T f.type l ∧ l.length = P.cellsOf f.type ∧ ∀ y ∈ l, y.one = true) → ∃ l, Rds (g0 W) W l (cs.drop off) ∧ TyFs T fs l ∧ ∀ y ∈ l, y.one = true
  | [], off, hc, _ => by
    have := Nat.eq_of_beq_eq_true hc
    refine ⟨[], ?_, rfl, fun y hy => by cases hy⟩
    rw [List.drop_eq_nil_of_le (by omega)]
    exact .nil _ _
  | f :: fs, off, hc, h => by
    simp only [contig, Bool.and_eq_true] at hc
    have ho := Nat.eq_of_beq_eq_true hc.1
    obtain ⟨a, h1, h2, h3, h5⟩ := h f (List.mem_cons_self ..)
    obtain ⟨b, k1, k2, k3⟩ := rds_of_fields hlen fs _ hc.2 (fun f' hf' => h f' (List.mem_cons_of_mem _ hf'))
    refine ⟨a ++ b, ?_, ⟨a, b, rfl, h2, k2⟩, fun y hy => (List.mem_append.1 hy).elim (h5 y) (k3 y)⟩
    have e : cs.drop off = (cs.drop off).take (P.cellsOf f.type) ++ cs.drop (off + P.cellsOf f.type) := by
      rw [← List.drop_drop, List.take_append_drop]
    rw [e]
    rw [ho] at h1
    exact h1.append k1

theorem tyFs_mono {T T' : TypeId → List MV → Prop} (h : ∀ t l, T t l → T' t l) : ∀ (fs : List Field) (l : List MV), TyFs T fs l → TyFs T' fs l
  | [], l, hl => hl
  | f :: fs, l, ⟨a, b, e, h1, h2⟩ => ⟨a, b, e, h _ _ h1, tyFs_mono h fs b h2⟩
theorem tyM_succ {P : Program} : ∀ (n : Nat) (t : TypeId) (l : List MV), TyM P n t l → TyM P (n + 1) t l
  | 0, t, l, h => h.elim
  | n + 1, t, l, h => by
    unfold TyM at h ⊢
    split at h
    · rename_i k hu; exact h
    · rename_i hu; exact h
    · rename_i hu; exact h
    · rename_i e hu
      obtain ⟨xs, h1, h2⟩ := h
      exact ⟨xs, h1, fun x hx => ⟨(h2 x hx).1, tyM_succ n _ _ (h2 x hx).2.1, (h2 x hx).2.2⟩⟩
    · rename_i fs hu; exact tyFs_mono (tyM_succ n) _ _ h
    · exact h.elim
theorem tyM_le {P : Program} {n m : Nat} (h : n ≤ m) {t : TypeId} {l : List MV} (ht : TyM P n t l) : TyM P m t l := by
  obtain ⟨d, rfl⟩ := Nat.le.dest h
  induction d with
  | zero => exact ht
  | succ d ih => exact tyM_succ _ _ _ (ih (by omega))

section
variable {H : Type} {enc : TypeId × Value → H} {P : Program} {W : World} {base : Nat} {spare : Nat → Bool} {held : Bool}

theorem common_bound {α : Type} {p : Nat → α → Prop} (hm : ∀ n m a, n ≤ m → p n a → p m a) : ∀ (l : List α), (∀ a ∈ l, ∃ n, p n a) → ∃ n, ∀ a ∈ l, p n a
  | [], _ => ⟨0, fun a h => by cases h⟩
  | a :: l, h => by
    obtain ⟨n, hn⟩ := h a (List.mem_cons_self ..)
    obtain ⟨m, hm'⟩ := common_bound hm l (fun b hb => h b (List.mem_cons_of_mem _ hb))
    refine ⟨max n m, fun b hb => ?_⟩
    rcases List.mem_cons.1 hb with rfl | hb
    · exact hm _ _ _ (by omega) hn
    · exact hm _ _ _ (by omega) (hm' b hb)

/-- Whatever can be read is an abstract value of its type. -/
theorem reads_gen {ts : List TypeId} (hok : okTypes P ts = true) : ∀ (n : Nat) (x : DataW H × List MemPlace) (fuel : Nat) (t : TypeId) (cs : List Value), SizeOf.sizeOf x.1 ≤ n → t ∈ ts → DataW.trod enc P W base spare held fuel t cs = some x →
    ∃ (l : List MV) (m : Nat), Rds (g0 W) W l cs ∧ TyM P m t l ∧ ∀ y ∈ l, y.one = true := by
  intro n
  induction n using Nat.strongRecOn with
  | _ n ih =>
  intro x fuel t cs hx ht h
  have hot : (match P.underlying t with
    | some (.int _) | some .bool | some .string => true
    | some (.slice e) => natMem e ts && (match P.underlying e with | some (.struct _) => true | _ => Nat.beq (P.cellsOf e) 1)
    | some (.struct fs) => fs.toList.all (fun f => natMem f.type ts) && contig P (P.cellsOf t) fs.toList 0
    | _ => false) = true := by
    simp only [okTypes, List.all_eq_true] at hok
    exact hok t ht
  split at hot
  · rename_i k hu
    obtain ⟨v, rfl, rfl, hwf⟩ := DataW.trod_int hu h
    refine ⟨[.int k v], 1, .cons (.int _ _) (.nil _ _), ?_, by simp [MV.one]⟩
    unfold TyM
    rw [hu]
    exact ⟨v, rfl, hwf⟩
  · rename_i hu
    obtain ⟨b, rfl, rfl⟩ := DataW.trod_bool hu h
    refine ⟨[.bool b], 1, .cons (.bool _) (.nil _ _), ?_, by simp [MV.one]⟩
    unfold TyM
    rw [hu]
    exact ⟨b, rfl⟩
  · rename_i hu
    obtain ⟨s, rfl, rfl, hs⟩ := DataW.trod_string hu h
    refine ⟨[.str s], 1, .cons (.str _) (.nil _ _), ?_, by simp [MV.one]⟩
    unfold TyM
    rw [hu]
    exact ⟨s, rfl, hs⟩
  · rename_i e hu
    simp only [Bool.and_eq_true] at hot
    have he : e ∈ ts := natMem_iff.1 hot.1
    rcases open_slice hu h with ⟨rfl, rfl⟩ | ⟨a, len, cap, m, n', D, Pl, rfl, hb, hl, hm, hmm, rfl, hi⟩
    · refine ⟨[.lst none (P.cellsOf e) []], 1, .cons (Sub.nil _ _ _ _ .lst0) (.nil _ _), ?_, by simp [MV.one]⟩
      unfold TyM
      rw [hu]
      exact ⟨[], rfl, fun x hx => by cases hx⟩
    · have hlm : len ≤ m := by rw [hmm]; split <;> omega
      have hel : ∀ i, i < len → ∃ (l : List MV) (k : Nat) (us : List Value), us.length = P.cellsOf e ∧ Rds (g0 W) W l us ∧ TyM P k e l ∧ (∀ y ∈ l, y.one = true) ∧ ∀ j, j < P.cellsOf e → W.cell? ((a.add (i * P.cellsOf e)).add j) = us[j]? := by
        intro i hil
        obtain ⟨cs', hc, ht'⟩ := hi i (by omega)
        obtain ⟨_, hlen, hcell⟩ := World.cells?_some hc
        have hsz : SizeOf.sizeOf (D i) < n := by
          have hmem : D i ∈ (List.range len).map D := List.mem_map.2 ⟨i, List.mem_range.2 hil, rfl⟩
          have := List.sizeOf_lt_of_mem hmem
          simp only [DataW.slice.sizeOf_spec] at hx
          omega
        obtain ⟨l, k, h1, h2, h3⟩ := ih _ hsz (D i, Pl i) n' e cs' (Nat.le_refl _) he ht'
        exact ⟨l, k, cs', hlen, h1, h2, h3, hcell⟩
      -- the elements
      have hall : ∀ (N : Nat), N ≤ len → ∃ (xs : List MV) (us : List Value) (k : Nat), xs.length = N ∧ us.length = N * P.cellsOf e ∧ Rds (g0 W) W (flat xs) us ∧ (∀ y ∈ flat xs, y.one = true) ∧ (∀ x ∈ xs, x.cells.length = P.cellsOf e ∧ TyM P k e x.cells ∧ ElF P e x) ∧
          ∀ j, j < N * P.cellsOf e → W.cell? (a.add j) = us[j]? := by
        intro N
        induction N with
        | zero => exact fun _ => ⟨[], [], 0, rfl, by simp, .nil _ _, by simp [flat], by simp, by simp⟩
        | succ N ihN =>
          intro hN
          obtain ⟨xs, us, k, q1, q2, q3, q4, q5, q6⟩ := ihN (by omega)
          obtain ⟨l, k', us', r1, r2, r3, r4, r5⟩ := hel N (by omega)
          have hll : l.length = P.cellsOf e := by rw [← r2.1, r1]
          obtain ⟨y, hy1, hy2⟩ : ∃ y : MV, y.cells = l ∧ ElF P e y := by
            cases hue : P.underlying e with
            | none => 
              have hk1 : P.cellsOf e = 1 := by have := hot.2; rw [hue] at this; exact Nat.eq_of_beq_eq_true this
              match l, hll.trans hk1 with
              | [y], _ =>
                have := r4 y (List.mem_cons_self ..)
                simp only [ElF, hue]
                refine ⟨y, ?_, ?_⟩ <;> (cases y <;> first | rfl | (cases this; done))
            | some d =>
              cases d with
              | struct fs => exact ⟨.agg l, rfl, by simp only [ElF, hue]; rfl⟩
              | _ =>
                have hk1 : P.cellsOf e = 1 := by have := hot.2; rw [hue] at this; exact Nat.eq_of_beq_eq_true this
                match l, hll.trans hk1 with
                | [y], _ =>
                  have := r4 y (List.mem_cons_self ..)
                  simp only [ElF, hue]
                  refine ⟨y, ?_, ?_⟩ <;> (cases y <;> first | rfl | (cases this; done))
          refine ⟨xs ++ [y], us ++ us', max k k', by simp [q1], by rw [List.length_append, q2, r1, Nat.add_mul]; omega, ?_, ?_, ?_, ?_⟩
          · rw [flat_append]
            refine q3.append ?_
            simp only [flat, List.flatMap_cons, List.flatMap_nil, List.append_nil, hy1]
            exact r2
          · intro z hz
            rw [flat_append, List.mem_append] at hz
            rcases hz with hz | hz
            · exact q4 z hz
            · simp only [flat, List.flatMap_cons, List.flatMap_nil, List.append_nil, hy1] at hz
              exact r4 z hz
          · intro x hx
            rcases List.mem_append.1 hx with hx | hx
            · exact ⟨(q5 x hx).1, tyM_le (by omega) (q5 x hx).2.1, (q5 x hx).2.2⟩
            · simp at hx
              subst hx
              rw [hy1]
              exact ⟨hll, tyM_le (by omega) r3, hy2⟩
          · intro j hj
            rw [Nat.add_mul, Nat.one_mul] at hj
            by_cases hjl : j < N * P.cellsOf e
            · rw [List.getElem?_append_left (by omega)]
              exact q6 j hjl
            · rw [List.getElem?_append_right (by omega), q2, ← r5 (j - N * P.cellsOf e) (by omega), Go.MV.add_add]
              congr 2
              omega
      obtain ⟨xs, us, k, q1, q2, q3, q4, q5, q6⟩ := hall len (Nat.le_refl _)
      refine ⟨[.lst none (P.cellsOf e) xs], k + 1, .cons (.lst' q1 hl hm (fun x hx => (q5 x hx).1) q3 (fun j u hu => ⟨a, rfl, stab0 ?_ ?_⟩) (fun t ht => by cases ht)) (.nil _ _), ?_, by simp [MV.one]⟩
      · have hj : j < us.length := (List.getElem?_eq_some_iff.1 hu).1
        rw [q6 j (by omega)]
        exact hu
      · have hj : j < us.length := (List.getElem?_eq_some_iff.1 hu).1
        have hjf : j < (flat xs).length := by rw [← q3.1]; exact hj
        exact one_cell (q3.2 j _ u (List.getElem?_eq_getElem hjf) hu) (q4 _ (List.getElem_mem hjf))
      · unfold TyM
        rw [hu]
        exact ⟨xs, rfl, q5⟩
  · rename_i fs hu
    simp only [Bool.and_eq_true, List.all_eq_true] at hot
    obtain ⟨xs, n', rfl, rfl, hlen, hxl, hf⟩ := DataW.trod_struct hu h
    have hfld : ∀ f ∈ fs.toList, ∃ (k : Nat) (l : List MV), Rds (g0 W) W l ((cs.drop f.offset).take (P.cellsOf f.type)) ∧ TyM P k f.type l ∧ ∀ y ∈ l, y.one = true := by
      intro f hfm
      obtain ⟨i, hi⟩ := List.getElem?_of_mem hfm
      have hi' : fs[i]? = some f := by simpa using hi
      have hilt : i < xs.length := by rw [hxl]; exact (Array.getElem?_eq_some_iff.1 hi').1
      have htr := hf i f hi'
      rw [List.getElem?_eq_getElem hilt] at htr
      have hsz : SizeOf.sizeOf xs[i].1 < n := by
        have hmem : xs[i].1 ∈ xs.map (·.1) := List.mem_map.2 ⟨xs[i], List.getElem_mem hilt, rfl⟩
        have := List.sizeOf_lt_of_mem hmem
        simp only [DataW.agg.sizeOf_spec] at hx
        omega
      obtain ⟨l, k, h1, h2, h3⟩ := ih _ hsz xs[i] n' f.type _ (Nat.le_refl _) (natMem_iff.1 (hot.1 f hfm)) htr
      exact ⟨k, l, h1, h2, h3⟩
    obtain ⟨K, hK⟩ := common_bound (p := fun k (f : Field) => ∃ l : List MV, Rds (g0 W) W l ((cs.drop f.offset).take (P.cellsOf f.type)) ∧ TyM P k f.type l ∧ ∀ y ∈ l, y.one = true) (fun a b f hab ⟨l, h1, h2, h3⟩ => ⟨l, h1, tyM_le hab h2, h3⟩) fs.toList hfld
    have hcont := hot.2
    have hlens : ∀ (gs : List Field) (off : Nat), contig P (P.cellsOf t) gs off = true → off ≤ P.cellsOf t ∧ ∀ f ∈ gs, f.offset + P.cellsOf f.type ≤ P.cellsOf t := by
      intro gs
      induction gs with
      | nil => exact fun off hc => ⟨Nat.le_of_eq (Nat.eq_of_beq_eq_true hc), fun f hf => by cases hf⟩
      | cons f gs ihg =>
        intro off hc
        simp only [contig, Bool.and_eq_true] at hc
        have ho := Nat.eq_of_beq_eq_true hc.1
        obtain ⟨h1, h2⟩ := ihg _ hc.2
        refine ⟨by omega, fun f' hf' => ?_⟩
        rcases List.mem_cons.1 hf' with rfl | hf'
        · omega
        · exact h2 f' hf'
    obtain ⟨l, h1, h2, h3⟩ := rds_of_fields (P := P) (W := W) (T := TyM P K) hlen fs.toList 0 hcont (fun f hfm => by
      obtain ⟨l, h1, h2, h3⟩ := hK f hfm
      refine ⟨l, h1, h2, ?_, h3⟩
      have := (hlens _ _ hcont).2 f hfm
      rw [← h1.1, List.length_take, List.length_drop, hlen]
      omega)
    refine ⟨l, K + 1, by simpa using h1, ?_, h3⟩
    unfold TyM
    rw [hu]
    exact h2
  · cases hot
end

section
variable {H : Type} {enc : TypeId × Value → H} {P : Program} {W : World} {base b0 : Nat} {spare : Nat → Bool} {held : Bool} {r : Reach}
theorem arg_struct {ts : List TypeId} (hok : okTypes P ts = true) {t : TypeId} {fs : Array Field} (ht : t ∈ ts) (hu : P.underlying t = some (.struct fs)) {v : Value} {d : DataW H} {p : List MemPlace} (hv : Value.okWide P W r b0 t v) (h : DataW.Trod enc P W base spare held t v d p) :
    ∃ (l : List MV) (m : Nat), Rd (g0 W) W (.agg l) v ∧ TyM P m t l := by
  obtain ⟨cs, rfl, hsz⟩ := okWide_struct hu hv
  obtain ⟨fuel, hf⟩ := h
  obtain ⟨l, m, h1, h2, _⟩ := reads_gen hok _ _ _ _ _ (Nat.le_refl _) ht hf
  refine ⟨l, m, ?_, h2⟩
  have := Rd.agg' h1
  simpa [Value.cells] using this
theorem arg_one {ts : List TypeId} (hok : okTypes P ts = true) {t : TypeId} (ht : t ∈ ts) {v : Value} {d : DataW H} {p : List MemPlace} (hv : v.cells = #[v]) (h : DataW.Trod enc P W base spare held t v d p) :
    ∃ (l : List MV) (m : Nat), Rds (g0 W) W l [v] ∧ TyM P m t l := by
  obtain ⟨fuel, hf⟩ := h
  rw [hv] at hf
  obtain ⟨l, m, h1, h2, _⟩ := reads_gen hok _ _ _ _ _ (Nat.le_refl _) ht hf
  exact ⟨l, m, h1, h2⟩
end

theorem law_calls {P : Program} {f : FuncId} {xs : List MV} {W : World} {vs : List Value} (h : MCalls P f xs [] fun v σ' => v = .bool true ∧ σ' = []) (hr : Rds (g0 W) W xs vs) : Calls P f vs.toArray W fun e w' => e = .returned (.bool true) ∧ Below W.heap.size W w' := by
  refine (callsIn_wide.1 (h (g0 W) W vs (rel0 W) hr)).mono ?_
  rintro e w' ⟨v, rfl, x, σ', g', ⟨rfl, rfl⟩, hrel, hrd, hle⟩
  rw [hrd.inv_bool]
  have := hrel.below
  rw [hle.B, hle.w0] at this
  exact ⟨rfl, this⟩
end Go.MV
