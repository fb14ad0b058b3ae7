/- Walk: the reference's Short. -/
import Derived.Test.YtbccfgeepdmegaaDoorSealB
set_option linter.unusedVariables false
set_option linter.unusedSimpArgs false
set_option linter.unnecessarySimpa false
namespace Go.Proofs.YtbccfgeepdmegaaDoor
open Go Go.RowKit Mem
/-- parts that are few and small -/
def shortD (ps : List ByteArray) (n : Int) : Bool := (ps.all fun p => decide (p.size ≤ 300)) && decide ((ps.length : Int) ≤ n)
theorem shortD_iff (ps : List ByteArray) (n : Int) : shortD ps n = true ↔ (∀ p ∈ ps, p.size ≤ 300) ∧ (ps.length : Int) ≤ n := by simp [shortD]
theorem short_long {ps : List ByteArray} {n : Int} {i : Nat} {p : ByteArray} (hp : ps[i]? = some p) (h : 300 < p.size) : shortD ps n = false := by
  rw [← Bool.not_eq_true, shortD_iff]
  intro ⟨h1, _⟩
  have := h1 p (List.mem_of_getElem? hp)
  omega
theorem short_done {ps : List ByteArray} {n : Int} (h : ∀ j p, j < ps.length → ps[j]? = some p → p.size ≤ 300) : shortD ps n = decide ((ps.length : Int) ≤ n) := by
  rw [Bool.eq_iff_iff, shortD_iff, decide_eq_true_iff]
  refine ⟨fun h => h.2, fun h2 => ⟨fun p hp => ?_, h2⟩⟩
  obtain ⟨j, hj, rfl⟩ := List.mem_iff_getElem.mp hp
  exact h j _ hj (List.getElem?_eq_getElem hj)
attribute [irreducible] shortD
set_option maxRecDepth 100000 in
set_option maxHeartbeats 4000000 in
theorem short_any (A : Option Addr) (cap : Nat) (ps : List ByteArray) (n : Int) (w : World) (hp : Rd w A (ps.map .string)) (hn : ps.length ≤ 9223372036854775807) :
    Calls Tryd.prog 21 #[.slice A ps.length cap, .int .i64 n] w fun e w' => e = .returned (.bool (shortD ps n)) ∧ Below w.heap.size w w' := by
  go_enter Tryd.func21, Tryd.ntmps21
  go_wp2_with fail
  go_loopw [5] (fun a wr => ∃ i : Nat, a = .int .i64 i ∧ i ≤ ps.length ∧ Hid (∀ j p, j < i → ps[j]? = some p → p.size ≤ 300) ∧ Below w.heap.size w wr) (fun a _ => ps.length - (intOf a).toNat)
  case atStart => exact ⟨0, rfl, Nat.zero_le _, hide (fun j p hj => absurd hj (by omega)), Below.refl _ _⟩
  case round =>
    obtain ⟨i, rfl, hil, hg, hb⟩ := hrel
    have hL := Rd.below hp hb
    by_cases hlt : i < ps.length
    · have i1 : (i : Int) < (ps.length : Int) := by omega
      have i2 : (0 : Int) ≤ (i : Int) := by omega
      have i3 := i64_id ((i : Int) + 1) (by omega)
      obtain ⟨p, hpi⟩ : ∃ p, ps[i]? = some p := ⟨ps[i], List.getElem?_eq_getElem hlt⟩
      obtain ⟨b, off, rfl, hbl, hcell⟩ := hL.cell (i := i) (v := .string p) (by simp [hpi])
      replace hpi := hide hpi
      by_cases h3 : 300 < p.size
      · have h3' : (300 : Int) < (p.size : Int) := by omega
        go_wp2_with fail
        go_ret
        exact ⟨by rw [short_long hpi.out h3]; rfl, hb⟩
      · have h3' : ¬ (300 : Int) < (p.size : Int) := by omega
        go_wp2_with fail
        go_roundw
        case rel =>
          refine ⟨i + 1, by go_num, by omega, hide (fun j q hj hq => ?_), hb⟩
          by_cases e : j = i
          · subst e
            have := hpi.out
            rw [this] at hq
            cases hq
            omega
          · exact hg.out j q (by omega) hq
        case measure => simp [intOf]; omega
    · have e : i = ps.length := by omega
      have i1 : ¬ (i : Int) < (ps.length : Int) := by omega
      subst e
      go_wp2_with fail
      go_ret
      exact ⟨by rw [short_done hg.out]; rfl, hb⟩
end Go.Proofs.YtbccfgeepdmegaaDoor
