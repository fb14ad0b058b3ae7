/- Plain: the closed facts of the statements' examples. -/
import Derived.Test.YtbccfgeepdmegaaDoorSealL
import Derived.Test.YtbccfgeepdmegaaDoorSealN
set_option linter.unusedVariables false
set_option linter.unusedSimpArgs false
set_option linter.unnecessarySimpa false
namespace Go.Proofs.YtbccfgeepdmegaaDoor
open Go
namespace San
theorem bytes_small {l : List Nat} (h : l.length < 64) : Wire.bytes l = 2 * l.length :: l := by
  have e : Wire.int (l.length : Int) = [2 * l.length] := by
    rw [Wire.int_eq, Wire.zig_eq, if_pos (by omega), show (2 * (l.length : Int)).toNat = 2 * l.length by omega, Wire.vint_small (by omega)]
  unfold Wire.bytes
  rw [e]; rfl
def sS : ByteArray := ⟨#[115]⟩
def sT : ByteArray := ⟨#[116]⟩
def sX : ByteArray := ⟨#[120]⟩
def sY : ByteArray := ⟨#[121]⟩
def sN : ByteArray := ⟨#[110]⟩
def sM : ByteArray := ⟨#[109]⟩
theorem dig3 (tag : Int) (a b c : Nat) (x y z : ByteArray) (hx : Bs x = [a]) (hy : Bs y = [b]) (hz : Bs z = [c]) : Sha.dig tag ([x, y, z].map Bs) = (Sha.fin (Sha.feed Sha.st0 [(tag % 256).toNat, 2, a, 2, b, 2, c])).take 16 := by
  rw [Sha.dig_eq, Sha.inp_eq]
  simp only [List.map_cons, List.map_nil, hx, hy, hz, List.flatMap_cons, List.flatMap_nil]
  rw [bytes_small (by simp), bytes_small (by simp), bytes_small (by simp)]; rfl
theorem dig2 (tag : Int) (a b : Nat) (x y : ByteArray) (hx : Bs x = [a]) (hy : Bs y = [b]) : Sha.dig tag ([x, y].map Bs) = (Sha.fin (Sha.feed Sha.st0 [(tag % 256).toNat, 2, a, 2, b])).take 16 := by
  rw [Sha.dig_eq, Sha.inp_eq]
  simp only [List.map_cons, List.map_nil, hx, hy, List.flatMap_cons, List.flatMap_nil]
  rw [bytes_small (by simp), bytes_small (by simp)]; rfl
theorem k1 : (Sha.fin (Sha.feed Sha.st0 [7, 2, 115, 2, 120, 2, 115])).take 16 ≠ (Sha.fin (Sha.feed Sha.st0 [7, 2, 115, 2, 121, 2, 115])).take 16 := by decide +kernel
theorem k2 : (Sha.fin (Sha.feed Sha.st0 [121, 2, 110, 2, 120])).take 16 ≠ (Sha.fin (Sha.feed Sha.st0 [121, 2, 109, 2, 120])).take 16 := by decide +kernel
def kA : KeyD := ⟨5, 1, sS, 0, 100⟩
def kB : KeyD := ⟨5, 2, sS, 7, 7⟩
def kC2 : KeyD := ⟨5, 2, sT, 50, 1048577⟩
def kA50 : KeyD := ⟨5, 1, sS, 0, 50⟩
theorem a1 : addE [] kA = 0 ∧ addL [] kA = [kA] := by decide +kernel
theorem a2 : addE [kA] kA = 6 ∧ addL [kA] kA = [] := by decide +kernel
theorem a3 : addE [kA] kB = 1 ∧ addL [kA] kB = [] := by decide +kernel
theorem c1 : curD [kA] 5 99 = (kA, 0) := by decide +kernel
theorem c2 : curD [kA] 5 100 = (key0 0 0, 9) := by decide +kernel
theorem c3 : curD [kA] 6 99 = (key0 0 0, 5) := by decide +kernel
theorem r1 : rotE [kA] 5 sT 50 = 0 ∧ rotL [kA] 5 sT 50 = [kA50, kC2] := by decide +kernel
theorem g1 : ring [kA] = true := by decide +kernel
theorem g2 : ring [kA50, kC2] = true := by decide +kernel
theorem f1 : find [kA] 5 1 = some kA := by decide +kernel
theorem n1 : kA.counts 99 = true := by decide +kernel
theorem n2 : kA.counts 100 = false := by decide +kernel
theorem m1 : mk sS 7 [sX] ≠ mk sS 7 [sY] := by
  rw [mk_eq, mk_eq]
  have e1 := dig3 7 115 120 115 sS sX sS rfl rfl rfl
  have e2 := dig3 7 115 121 115 sS sY sS rfl rfl rfl
  show Sha.dig 7 ([sS, sX, sS].map Bs) ≠ Sha.dig 7 ([sS, sY, sS].map Bs)
  rw [e1, e2]; exact k1
theorem b1 : bl sM [sX] ≠ bl sN [sX] := by
  rw [bl_eq, bl_eq]
  have e1 := dig2 121 109 120 sM sX rfl rfl
  have e2 := dig2 121 110 120 sN sX rfl rfl
  rw [e1, e2]; exact k2.symm
theorem h1 : chkE [kA] 5 1 7 [sX] (mk sS 7 [sX]) 99 = 0 := by rw [chk_counts f1 7 [sX] _ n1]; exact if_pos rfl
theorem h2 : chkE [kA] 5 1 7 [sY] (mk sS 7 [sX]) 99 = 8 := by rw [chk_counts f1 7 [sY] _ n1]; exact if_neg m1.symm
theorem h3 : chkE [kA] 5 1 7 [sX] (mk sS 7 [sX]) 100 = 9 := by rw [chk_time f1 7 [sX] _ n2]
theorem okA : kA.ok := ⟨by decide, by decide, by decide, by decide, by decide⟩
theorem okB : kB.ok := ⟨by decide, by decide, by decide, by decide, by decide⟩
end San
end Go.Proofs.YtbccfgeepdmegaaDoor
