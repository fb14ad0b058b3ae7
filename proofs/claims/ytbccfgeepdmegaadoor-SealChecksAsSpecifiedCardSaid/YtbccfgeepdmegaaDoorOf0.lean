/- Plain: a digest of parts. -/
import Derived.Test.YtbccfgeepdmegaaDoorSha2
import Derived.Test.YtbccfgeepdmegaaDoorWire0
set_option linter.unusedVariables false
set_option linter.unusedSimpArgs false
set_option linter.unnecessarySimpa false
namespace Go.Proofs.YtbccfgeepdmegaaDoor
namespace Sha
/-- what is hashed for a tag and parts -/
def inp (tag : Int) (parts : List (List Nat)) : List Nat := (tag % 256).toNat :: parts.flatMap Wire.bytes
/-- the digest -/
def dig (tag : Int) (parts : List (List Nat)) : List Nat := (fin (feed st0 (inp tag parts))).take 16
theorem dig_length (tag : Int) (parts : List (List Nat)) : (dig tag parts).length = 16 := by unfold dig; rw [List.length_take, fin_length]; rfl
theorem dig_lt (tag : Int) (parts : List (List Nat)) : ∀ x ∈ dig tag parts, x < 256 := fun x hx => fin_lt _ x (List.mem_of_mem_take hx)
theorem inp_snoc (tag : Int) (parts : List (List Nat)) (p : List Nat) : inp tag (parts ++ [p]) = inp tag parts ++ Wire.bytes p := by simp [inp]
theorem inp_lt (tag : Int) (parts : List (List Nat)) (h : ∀ p ∈ parts, ∀ x ∈ p, x < 256) : ∀ x ∈ inp tag parts, x < 256 := by
  intro x hx
  rcases List.mem_cons.1 hx with rfl | hx
  · omega
  · obtain ⟨p, hp, hx⟩ := List.mem_flatMap.1 hx
    exact Wire.bytes_lt p (h p hp) x hx
theorem inp_eq (tag : Int) (parts : List (List Nat)) : inp tag parts = (tag % 256).toNat :: parts.flatMap Wire.bytes := rfl
theorem dig_eq (tag : Int) (parts : List (List Nat)) : dig tag parts = (fin (feed st0 (inp tag parts))).take 16 := rfl
attribute [irreducible] inp dig
end Sha
end Go.Proofs.YtbccfgeepdmegaaDoor
