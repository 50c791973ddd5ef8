/-
  Values as trees, and how the program's memory has them. No program.
-/
import Derived.Test.YtihpnfpdocnniaaClkP
import Derived.Test.YtihpnfpdocnniaaCel
set_option linter.unusedVariables false
set_option linter.unusedSimpArgs false
namespace Go.MV
open Go Go.RowKit
def encX (s : Bs) : MV := .str (bs s)
theorem cl_encX (n : Nat) (s : Bs) : Cl n (encX s) := .str _
theorem encX_one (s : Bs) : encX s = .agg (encX s).cells ∨ [encX s] = (encX s).cells := .inr rfl
theorem cl_texts (n : Nat) (l : List Bs) : Cl n (.lst none 1 (l.map encX)) := cl_lst (cl_encX n) encX_one
def encC (c : List Tk) : MV := .lst none 2 (c.map encT)
theorem cl_encC (n : Nat) (c : List Tk) : Cl n (encC c) := cl_clock n c
theorem encC_one (c : List Tk) : encC c = .agg (encC c).cells ∨ [encC c] = (encC c).cells := .inr rfl
theorem cl_clocks (n : Nat) (l : List (List Tk)) : Cl n (.lst none 1 (l.map encC)) := cl_lst (cl_encC n) encC_one

inductive Val where
  | mk (n m : Int) (s : List Bs) (c : List (List Tk)) (v : List Val)
  deriving Inhabited
noncomputable instance : DecidableEq Val := fun a b => Classical.propDecidable (a = b)
mutual
def encV : Val → MV
  | .mk n m s c v => .agg [.int .u64 n, .int .u64 m, .lst none 1 (s.map encX), .lst none 1 (c.map encC), .lst none 5 (encVs v)]
def encVs : List Val → List MV
  | [] => []
  | x :: l => encV x :: encVs l
end
theorem encVs_eq : ∀ l : List Val, encVs l = l.map encV
  | [] => by simp [encVs]
  | x :: l => by simp [encVs, encVs_eq l]
theorem encVs_length (l : List Val) : (encVs l).length = l.length := by rw [encVs_eq, List.length_map]
theorem encVs_get {l : List Val} {i : Nat} {s : Val} (h : l[i]? = some s) : (encVs l)[i]? = some (encV s) := by rw [encVs_eq, List.getElem?_map, h]; rfl
theorem encVs_append (a b : List Val) : encVs (a ++ b) = encVs a ++ encVs b := by simp [encVs_eq]
theorem encV_cells (x : Val) : (encV x).cells.length = 5 := by cases x; rfl
theorem encV_one (x : Val) : (encV x).cells.all MV.one = true := by cases x; rfl
mutual
theorem cl_encV (k : Nat) : ∀ x : Val, Cl k (encV x)
  | .mk n m s c v => by
    refine .agg _ fun x hx => ?_
    simp only [encV, List.mem_cons, List.not_mem_nil, or_false] at hx
    rcases hx with rfl | rfl | rfl | rfl | rfl
    · exact .int _ _
    · exact .int _ _
    · exact cl_texts k s
    · exact cl_clocks k c
    · exact .lst none 5 _ (fun t ht => by cases ht) (cl_encVs k v)
theorem cl_encVs (k : Nat) : ∀ (l : List Val), ∀ x ∈ flat (encVs l), Cl k x
  | [], x, hx => by simp [encVs, flat] at hx
  | s :: l, x, hx => by
    rw [encVs, flat_cons, List.mem_append] at hx
    rcases hx with hx | hx
    · have h := cl_encV k s
      cases s with
      | mk n m ss c v =>
        cases h with
        | agg _ h => exact h x hx
    · exact cl_encVs k l x hx
end
theorem cl_encVl (n : Nat) (l : List Val) : Cl n (.lst none 5 (encVs l)) := .lst none 5 _ (fun t ht => by cases ht) (cl_encVs n l)
def Val.nv : Val → Int | .mk n _ _ _ _ => n
def Val.mv : Val → Int | .mk _ m _ _ _ => m
def Val.sv : Val → List Bs | .mk _ _ s _ _ => s
def Val.cv : Val → List (List Tk) | .mk _ _ _ c _ => c
def Val.vv : Val → List Val | .mk _ _ _ _ v => v
mutual
def vdepth : Val → Nat
  | .mk _ _ _ _ v => 1 + vdepthL v
def vdepthL : List Val → Nat
  | [] => 0
  | x :: l => max (vdepth x) (vdepthL l)
end
theorem vdepth_mem {l : List Val} {x : Val} (h : x ∈ l) : vdepth x ≤ vdepthL l := by
  induction l with
  | nil => cases h
  | cons y l ih =>
    rw [vdepthL]
    rcases List.mem_cons.1 h with rfl | h
    · omega
    · have := ih h; omega
/-! ### How great -/
mutual
def sizeF : Val → Int
  | .mk _ _ _ _ v => sizeGo 1 v
def sizeGo : Int → List Val → Int
  | n, [] => n
  | n, x :: l => sizeGo (IntKind.i64.wrap (n + sizeF x)) l
end
theorem sizeGo_append : ∀ (n : Int) (a b : List Val), sizeGo n (a ++ b) = sizeGo (sizeGo n a) b
  | n, [], b => by simp [sizeGo]
  | n, x :: a, b => by simp only [List.cons_append, sizeGo, sizeGo_append]
theorem sizeGo_succ {l : List Val} {i : Nat} {x : Val} (h : l[i]? = some x) (n : Int) : sizeGo n (l.take (i + 1)) = IntKind.i64.wrap (sizeGo n (l.take i) + sizeF x) := by
  rw [List.take_add_one, h, Option.toList_some, sizeGo_append]
  simp [sizeGo]
/-! ### Rows of texts -/
def risesF : List Bs → Bool
  | [] => true
  | [_] => true
  | a :: b :: l => Op.bytesLess a b && risesF (b :: l)
def shortF (l : List Bs) : Bool := l.all fun s => decide (s.length ≤ 16)
/-! ### Clocks as rows -/
def tickC (x y : Tk) : Int := if cmpI x.1 y.1 ≠ 0 then cmpI x.1 y.1 else cmpI x.2 y.2
def byTicksF : List Tk → List Tk → Int
  | [], [] => 0
  | [], _ :: _ => -1
  | _ :: _, [] => 1
  | x :: a, y :: b => if tickC x y ≠ 0 then tickC x y else byTicksF a b
def pairF (a b : List Tk) : Bool := decide (byTicksF a b < 0) && decide (cmpF a b = 2)
def pairsF : List (List Tk) → Bool
  | [] => true
  | a :: l => l.all (pairF a) && pairsF l
def isCauseF (l : List (List Tk)) : Bool := l.all isClockF && pairsF l
/-! ### Nothing -/
def noV : Val := .mk 0 0 [] [] []
end Go.MV
