/- Plain: integers and strings as bytes. No program, no memory. -/
namespace Go.Proofs.YtbccfgeepdmegaaDoor
namespace Wire
def vint (z : Nat) : List Nat := if h : z < 128 then [z] else (z % 128 + 128) :: vint (z / 128)
termination_by z
decreasing_by omega
theorem vint_small {z : Nat} (h : z < 128) : vint z = [z] := by rw [vint, dif_pos h]
theorem vint_big {z : Nat} (h : 128 ≤ z) : vint z = (z % 128 + 128) :: vint (z / 128) := by rw [vint, dif_neg (by omega)]
theorem vint_len (k : Nat) : ∀ z : Nat, z < 128 ^ (k + 1) → (vint z).length ≤ k + 1 := by
  induction k with
  | zero => intro z h; rw [vint_small (by omega)]; simp
  | succ k ih =>
    intro z h
    by_cases hz : z < 128
    · rw [vint_small hz]; simp
    · rw [vint_big (by omega), List.length_cons]
      have : z / 128 < 128 ^ (k + 1) := by
        rw [Nat.div_lt_iff_lt_mul (by decide), ← Nat.pow_succ]; exact h
      have := ih (z / 128) this
      omega
theorem vint_len10 {z : Nat} (h : z < 18446744073709551616) : (vint z).length ≤ 10 := vint_len 9 z (by omega)
theorem vint_lt (z : Nat) : ∀ x ∈ vint z, x < 256 := by
  induction z using Nat.strongRecOn with
  | ind z ih =>
    intro x hx
    by_cases hz : z < 128
    · rw [vint_small hz] at hx; simp at hx; omega
    · rw [vint_big (by omega)] at hx
      rcases List.mem_cons.1 hx with rfl | hx
      · omega
      · exact ih (z / 128) (by omega) x hx
def zig (n : Int) : Nat := if 0 ≤ n then (2 * n).toNat else (-2 * n - 1).toNat
/-- the encoding of an integer, and of a byte string -/
def int (n : Int) : List Nat := vint (zig n)
def bytes (l : List Nat) : List Nat := int l.length ++ l
theorem vint_pos (z : Nat) : 0 < (vint z).length := by
  by_cases h : z < 128
  · rw [vint_small h]; simp
  · rw [vint_big (by omega)]; simp
theorem bytes_pos (l : List Nat) : 0 < (bytes l).length := by
  unfold bytes int; rw [List.length_append]; have := vint_pos (zig l.length); omega
theorem int_lt (n : Int) : ∀ x ∈ int n, x < 256 := vint_lt _
theorem bytes_lt (l : List Nat) (h : ∀ x ∈ l, x < 256) : ∀ x ∈ bytes l, x < 256 := by
  intro x hx
  rcases List.mem_append.1 hx with hx | hx
  · exact int_lt _ x hx
  · exact h x hx
theorem zig_lt {n : Int} (h0 : -9223372036854775808 ≤ n) (h1 : n < 9223372036854775808) : zig n < 18446744073709551616 := by
  unfold zig; split <;> omega
theorem int_len {n : Int} (h0 : -9223372036854775808 ≤ n) (h1 : n < 9223372036854775808) : (int n).length ≤ 10 := vint_len10 (zig_lt h0 h1)
theorem zig_eq (n : Int) : zig n = if 0 ≤ n then (2 * n).toNat else (-2 * n - 1).toNat := rfl
theorem int_eq (n : Int) : int n = vint (zig n) := rfl
attribute [irreducible] zig int
end Wire
end Go.Proofs.YtbccfgeepdmegaaDoor
