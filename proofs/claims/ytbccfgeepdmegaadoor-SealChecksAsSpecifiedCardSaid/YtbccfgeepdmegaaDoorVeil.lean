/- Loads and stores of whole rows, kept shut from the walk's simp and met by laws of their own; over any program. -/
import Derived.Test.YtbccfgeepdmegaaDoorMem2
import Derived.Deep.DrawnRows
set_option linter.unusedVariables false
set_option linter.unusedSimpArgs false
set_option linter.unnecessarySimpa false
namespace Go.Proofs.YtbccfgeepdmegaaDoor
open Go Go.RowKit
namespace Mem
/-- an operation that the walk's simp does not open -/
def Vlt (P : Program) (o : Oper) (a : Act) (w : World) (K : Act → World → Prop) (Q : Exit → Act → World → Prop) : Prop := o.wp P a w K Q
theorem vl_eq {P : Program} {o : Oper} {a : Act} {w : World} {K : Act → World → Prop} {Q : Exit → Act → World → Prop} : o.wp P a w K Q = Vlt P o a w K Q := rfl
attribute [irreducible] Vlt
theorem vl_load {P : Program} {ty t : TypeId} {d : Option Tmp} {x : Operand} {p : String} {af : Array Edge} {a : Act} {w : World} {K : Act → World → Prop} {Q : Exit → Act → World → Prop}
    (b tb : Nat) (cs : List Value) (dd : TypeDesc) (hx : a.eval x = .pointer (some ⟨b, 0, none⟩)) (hg : Blk w b tb cs)
    (hu : P.underlying ty = some dd) (hd : (match dd with | .struct _ | .array _ _ => true | _ => false) = true) (hi : (P.info? ty).map (·.size) = some cs.length)
    (h : K (a.put d (.agg cs.toArray)) w) : Vlt P ⟨d, .load ty x, t, p, af, none⟩ a w K Q := by
  rw [← vl_eq]
  unfold Oper.wp execOp
  simp only [hx, Instr.loadAt, Instr.sureAddr, Sem.run_bind, Sem.run_pure, Result.andThen_ok, run_loadVar_at P w b 0 ty cs dd (At.of_blk hg) hu hd hi]
  exact h
theorem vl_load_at {P : Program} {ty t : TypeId} {d : Option Tmp} {x : Operand} {p : String} {af : Array Edge} {a : Act} {w : World} {K : Act → World → Prop} {Q : Exit → Act → World → Prop}
    (b off : Nat) (cs : List Value) (dd : TypeDesc) (hx : a.eval x = .pointer (some ⟨b, off, none⟩)) (hg : At w b off cs)
    (hu : P.underlying ty = some dd) (hd : (match dd with | .struct _ | .array _ _ => true | _ => false) = true) (hi : (P.info? ty).map (·.size) = some cs.length)
    (h : K (a.put d (.agg cs.toArray)) w) : Vlt P ⟨d, .load ty x, t, p, af, none⟩ a w K Q := by
  rw [← vl_eq]
  unfold Oper.wp execOp
  simp only [hx, Instr.loadAt, Instr.sureAddr, Sem.run_bind, Sem.run_pure, Result.andThen_ok, run_loadVar_at P w b off ty cs dd hg hu hd hi]
  exact h
theorem vl_store {P : Program} {ty t : TypeId} {d : Option Tmp} {x y : Operand} {p : String} {af : Array Edge} {a : Act} {w : World} {K : Act → World → Prop} {Q : Exit → Act → World → Prop}
    (b tb : Nat) (cs' cs : List Value) (hx : a.eval x = .pointer (some ⟨b, 0, none⟩)) (hy : a.eval y = .agg cs'.toArray) (hg : Blk w b tb cs)
    (hi : (P.info? ty).map (·.size) = some cs'.length) (hold : cs.length = cs'.length) (h1 : ∀ v ∈ cs', v.oneCell' = true)
    (h : K (a.put d undef) (w.setRow b cs'.toArray)) : Vlt P ⟨d, .store ty x y, t, p, af, none⟩ a w K Q := by
  rw [← vl_eq]
  have hst := run_storeCells_at P b 0 tb cs' 0 cs.toArray w hg (by simpa using Nat.le_of_eq hold.symm) h1
  cases hq : P.info? ty with
  | none => simp [hq] at hi
  | some i =>
    have hs : cs'.length = i.size := by simp [hq] at hi; omega
    simp only [Nat.add_zero, List.take_zero, Nat.zero_add, List.nil_append, List.drop_eq_nil_of_le (show cs.toArray.toList.length ≤ cs'.length by simpa using Nat.le_of_eq hold), List.append_nil] at hst
    have hrun : (storeVar ty ⟨b, 0, none⟩ (.agg cs'.toArray)).run P w = .ok () (w.setRow b cs'.toArray) := by
      simp [storeVar, sizeOf, typeInfo, hq, Value.cells, hs, hst]
    unfold Oper.wp execOp
    simp only [hx, hy, Instr.storeAt, Instr.sureAddr, Sem.run_bind, Sem.run_pure, Result.andThen_ok, hrun]
    exact h
theorem Blk.take {w : World} {b t : Nat} {cs : List Value} (h : Blk w b t cs) (n : Nat) : At w b 0 (cs.take n) := by
  have := (At.of_blk h).sub 0 n
  simpa using this
/-- S is a list of one-cell values -/
def ones (cs : List Value) : Prop := ∀ v ∈ cs, v.oneCell' = true
end Mem
end Go.Proofs.YtbccfgeepdmegaaDoor
