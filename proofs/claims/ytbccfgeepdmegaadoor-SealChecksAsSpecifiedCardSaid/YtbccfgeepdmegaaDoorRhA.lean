/- Walks: the reference's hash: rotr. -/
import Derived.Test.YtbccfgeepdmegaaDoorHashA
import Derived.Test.YtbccfgeepdmegaaDoorMem2
import Derived.Deep.RegionHeld3
set_option linter.unusedVariables false
set_option linter.unusedSimpArgs false
set_option linter.unnecessarySimpa false
namespace Go.Proofs.YtbccfgeepdmegaaDoor
open Go Go.RowKit Mem
set_option maxHeartbeats 400000 in
theorem rrotr_any (x n : Nat) (w : World) (hx : x < 4294967296) (h1 : 1 ≤ n) (hn : n ≤ 31) :
    Calls Tryd.prog 69 #[.int .u32 x, .int .i64 n] w fun e w' => e = .returned (.int .u32 (Sha.rotr x n)) ∧ Below w.heap.size w w' := by
  have s1 := fun W => run_shr Tryd.prog W .u32 .i64 x n (by omega)
  have s2 := fun W => run_shl Tryd.prog W .u32 .i64 x (32 - (n : Int)) (by omega)
  have e1 := i64_id (32 - (n : Int)) (by omega)
  go_enter Tryd.func69, Tryd.ntmps69
  go_wp2_with fail
  go_quiet (fail)
  go_wp2_with fail
  go_ret
  refine ⟨?_, below_drewN (Below.refl _ _) _⟩
  have a : ((x : Int) * 2 ^ (32 - n) % 4294967296) = ((x * 2 ^ (32 - n) % 4294967296 : Nat) : Int) := by simp
  have b : ((x : Int) / 2 ^ n) = ((x / 2 ^ n : Nat) : Int) := by simp
  have e : bits .or .u32 ((x : Int) / 2 ^ n) ((x : Int) * 2 ^ (32 - n) % 4294967296) = ((Sha.rotr x n : Nat) : Int) := by
    rw [a, b, or32 _ _ (Nat.lt_of_le_of_lt (Nat.div_le_self _ _) hx) (Nat.mod_lt _ (by decide)), Sha.rotr_eq, Nat.shiftLeft_eq, Nat.shiftRight_eq_div_pow]
  rw [← e]
  rfl
/-- the same, that the world is but drawn from -/
theorem rrotr_q (x n : Nat) (w : World) (hx : x < 4294967296) (h1 : 1 ≤ n) (hn : n ≤ 31) :
    Calls Tryd.prog 69 #[.int .u32 x, .int .i64 n] w fun e w' => e = .returned (.int .u32 (Sha.rotr x n)) ∧ ∃ k, w' = w.drewN k := by
  have s1 := fun W => run_shr Tryd.prog W .u32 .i64 x n (by omega)
  have s2 := fun W => run_shl Tryd.prog W .u32 .i64 x (32 - (n : Int)) (by omega)
  have e1 := i64_id (32 - (n : Int)) (by omega)
  go_enter Tryd.func69, Tryd.ntmps69
  go_wp2_with fail
  go_quiet (fail)
  go_wp2_with fail
  go_ret
  refine ⟨?_, _, rfl⟩
  have a : ((x : Int) * 2 ^ (32 - n) % 4294967296) = ((x * 2 ^ (32 - n) % 4294967296 : Nat) : Int) := by simp
  have b : ((x : Int) / 2 ^ n) = ((x / 2 ^ n : Nat) : Int) := by simp
  have e : bits .or .u32 ((x : Int) / 2 ^ n) ((x : Int) * 2 ^ (32 - n) % 4294967296) = ((Sha.rotr x n : Nat) : Int) := by
    rw [a, b, or32 _ _ (Nat.lt_of_le_of_lt (Nat.div_le_self _ _) hx) (Nat.mod_lt _ (by decide)), Sha.rotr_eq, Nat.shiftLeft_eq, Nat.shiftRight_eq_div_pow]
  rw [← e]
  rfl
theorem rrotr_draw (x n : Nat) (w : World) (a : Nat) (hx : x < 4294967296) (h1 : 1 ≤ n) (hn : n ≤ 31) :
    Calls Tryd.prog 69 #[.int .u32 x, .int .i64 n] (w.drewN a) fun e w' => e = .returned (.int .u32 (Sha.rotr x n)) ∧ ∃ k, w' = w.drewN k :=
  (rrotr_q x n (w.drewN a) hx h1 hn).mono fun e w' ⟨h, k, hk⟩ => ⟨h, a + k, by rw [hk]; exact World.drewN_drewN _ _ _⟩
/-- the same where the world is known up to draws -/
theorem rrotr_cell {w w' : World} (h : Below w.heap.size w w') {b off : Nat} {v : Value} (hc : w.cell? ⟨b, off, none⟩ = some v) : w'.cell? ⟨b, off, none⟩ = some v := by
  rw [h.cell (block_lt_of_cell hc)]; exact hc
end Go.Proofs.YtbccfgeepdmegaaDoor
