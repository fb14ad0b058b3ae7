/- The row kit, more: arrays of bytes that are handed in; two tables. -/
import Derived.Test.YtbccfgeepdmegaaDoorRowS
import Derived.Test.YtbccfgeepdmegaaDoorSealN
set_option linter.unusedVariables false
set_option linter.unusedSimpArgs false
set_option linter.unnecessarySimpa false
namespace Go.Proofs.YtbccfgeepdmegaaDoor
set_option maxRecDepth 100000
open Go Go.ChangeShapes Go.WideShapes Go.ChangeAt Go.RowKit Go.Deep Mem
theorem gK2_named : Tryd.prog.globalNamed "antiquary/antiquaryref02.constants" = some 1 := by kernel_rfl
theorem gK2_type : (Tryd.prog.globals[1]?).map (·.type) = some 104 := by kernel_rfl
theorem k2_of_laid {W : World} (h : laidMetH Tryd.prog [("antiquary/antiquaryref02.constants", Rows.laid_antiquary_antiquaryref02_constants), ("antiquary/hash.constants", Rows.laid_antiquary_hash_constants)] W) : At W 0 0 (Sha.K.map vu32) ∧ At W 1 0 (Sha.K.map vu32) := by
  rw [MakeChecks.laidMetH_plain _ _ _ (by kernel_rfl)] at h
  obtain ⟨ps, ⟨g0, t0, cs0, f0, p0, q0, hg0, ht0, hv0, hd0, ⟨g1, t1, cs1, f1, p1, q1, hg1, ht1, hv1, hd1, _⟩, _⟩, _, _⟩ := h
  obtain rfl := Option.some.inj (gK2_named.symm.trans hg0)
  obtain rfl := Option.some.inj (gK2_type.symm.trans ht0)
  obtain rfl := Option.some.inj (gK_named.symm.trans hg1)
  obtain rfl := Option.some.inj (gK_type.symm.trans ht1)
  exact ⟨table_at gK_named hv1 hd1, table_at gK2_named hv0 hd0⟩
section
variable {H : Type} {enc : TypeId × Value → H} {W : World} {base : Nat} {spare : Nat → Bool} {held : Bool}
theorem okWide_arr {r : Reach} {b0 : Nat} {t : TypeId} {v : Value} {n e : Nat} (ht : Tryd.prog.underlying t = some (.array n e)) (h : Value.okWide Tryd.prog W r b0 t v) : ∃ cs, v = .agg cs ∧ cs.size = Tryd.prog.cellsOf t := by
  simp only [Value.okWide, ht] at h
  obtain ⟨cs, h1, h2, _⟩ := h
  exact ⟨cs, h1, h2⟩
/-- cells that read as an array of bytes -/
theorem bytes_of {fuel : Nat} {t n : Nat} {cs : List Value} {x : DataW H × List MemPlace} (ht : Tryd.prog.underlying t = some (.array n 5)) (hc : Tryd.prog.cellsOf t = n) (h : DataW.trod enc Tryd.prog W base spare held fuel t cs = some x) :
    ∃ l : List Nat, (l.length = n ∧ ∀ x ∈ l, x < 256) ∧ cs = l.map vu8 := by
  obtain ⟨xs, m, _, _, hlen, hxl, hf⟩ := DataW.trod_array ht h
  have c1 : Tryd.prog.cellsOf 5 = 1 := by kernel_rfl
  rw [hc] at hlen
  have hex : ∀ i, i < n → ∃ y : Nat, y < 256 ∧ cs[i]? = some (vu8 y) := by
    intro i hi
    have he := hf i hi
    rw [c1, Nat.mul_one, List.getElem?_eq_getElem (by omega)] at he
    obtain ⟨n', e1, _, w⟩ := DataW.trod_int Tryd.underlying5 he
    have h2 : 0 ≤ n' ∧ n' ≤ 255 := by simpa [Lit.wf, IntKind.min, IntKind.max, IntKind.signed, IntKind.bits] using w
    have hc0 : cs[i]? = some (.int .u8 n') := by
      have h2 := congrArg (fun l => l[0]?) e1
      simpa using h2
    refine ⟨n'.toNat, by omega, ?_⟩
    rw [hc0]
    unfold vu8
    rw [show ((n'.toNat : Nat) : Int) = n' by omega]
  obtain ⟨f, hfk⟩ : ∃ f : Nat → Nat, ∀ i, i < n → f i < 256 ∧ cs[i]? = some (vu8 (f i)) := by
    refine ⟨fun i => if h : i < n then (hex i h).choose else 0, fun i hil => ?_⟩
    simp only [hil, dif_pos]
    exact (hex i hil).choose_spec
  refine ⟨(List.range n).map f, ⟨by simp, fun x hx => ?_⟩, ?_⟩
  · obtain ⟨i, hi, rfl⟩ := List.mem_map.1 hx
    exact (hfk i (List.mem_range.1 hi)).1
  · apply List.ext_getElem?
    intro i
    by_cases hi : i < n
    · rw [(hfk i hi).2, List.map_map, List.getElem?_map, List.getElem?_range hi]; rfl
    · rw [List.getElem?_eq_none (by omega), List.getElem?_eq_none (by simp; omega)]
/-- sixteen bytes that are handed in -/
theorem open_seal {v : Value} {d : DataW H} {p : List MemPlace} {b0 : Nat} {r : Reach} (hv : Value.okWide Tryd.prog W r b0 43 v) (h : DataW.Trod enc Tryd.prog W base spare held 43 v d p) : ∃ l : List Nat, D16 l ∧ v = .agg (l.map vu8).toArray := by
  obtain ⟨cs, rfl, hsz⟩ := okWide_arr Tryd.underlying43 hv
  obtain ⟨fuel, hf⟩ := h
  obtain ⟨l, hl, e⟩ := bytes_of Tryd.underlying43 (by kernel_rfl) hf
  exact ⟨l, hl, by rw [← e]; simp [Value.cells]⟩
theorem open_digest {v : Value} {d : DataW H} {p : List MemPlace} {b0 : Nat} {r : Reach} (hv : Value.okWide Tryd.prog W r b0 44 v) (h : DataW.Trod enc Tryd.prog W base spare held 44 v d p) : ∃ l : List Nat, D16 l ∧ v = .agg (l.map vu8).toArray := by
  obtain ⟨cs, rfl, hsz⟩ := okWide_arr Tryd.underlying44 hv
  obtain ⟨fuel, hf⟩ := h
  obtain ⟨l, hl, e⟩ := bytes_of Tryd.underlying44 (by kernel_rfl) hf
  exact ⟨l, hl, by rw [← e]; simp [Value.cells]⟩
end
end Go.Proofs.YtbccfgeepdmegaaDoor
