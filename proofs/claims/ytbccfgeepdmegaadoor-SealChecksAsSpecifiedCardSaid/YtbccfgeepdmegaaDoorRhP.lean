/- Plain: a message fed block by block. No program, no memory. -/
import Derived.Test.YtbccfgeepdmegaaDoorSha2
set_option linter.unusedVariables false
set_option linter.unusedSimpArgs false
set_option linter.unnecessarySimpa false
namespace Go.Proofs.YtbccfgeepdmegaaDoor
namespace Sha
theorem feed_block (st : St) (hl : st.blk.length = 64) (hn : st.n % 64 = 0) (cs : List Nat) (hc : cs.length = 64) : (feed st cs).s = compress st.s cs := by
  rw [feed_chunk cs st hl (by omega) (by omega), if_pos (by omega)]
  have e : over st.blk (st.n % 64) cs = cs := by
    unfold over
    rw [hn, List.take_zero, List.nil_append, Nat.zero_add, List.drop_of_length_le (by omega), List.append_nil]
  rw [e]
/-- the state behind b blocks of M -/
def sAt (M : List Nat) (b : Nat) : S8 := (feed st0 (M.take (64 * b))).s
theorem sAt_zero (M : List Nat) : sAt M 0 = init := by unfold sAt; rw [Nat.mul_zero, List.take_zero, feed_nil]; rfl
theorem sAt_step (M : List Nat) (hM : ∀ x ∈ M, x < 256) (b : Nat) (hb : 64 * b + 64 ≤ M.length) : sAt M (b + 1) = compress (sAt M b) ((M.drop (64 * b)).take 64) := by
  unfold sAt
  rw [show 64 * (b + 1) = 64 * b + 64 by omega, List.take_add, feed_append]
  have hok : (feed st0 (M.take (64 * b))).ok := feed_ok st0_ok (fun x hx => hM x (List.mem_of_mem_take hx))
  refine feed_block _ hok.2.1 ?_ _ (by simp; omega)
  rw [feed_n, List.length_take]
  show (0 + _) % 64 = 0
  omega
theorem sAt_all (M : List Nat) (b : Nat) (hb : 64 * b = M.length) : sAt M b = (feed st0 M).s := by
  unfold sAt
  rw [hb, List.take_length]
attribute [irreducible] sAt
end Sha
end Go.Proofs.YtbccfgeepdmegaaDoor
