/- The row kit of this seat: keys and lists of keys that are handed in, opened; the arguments read again; the table of hash.constants out of what the row lists. -/
import Derived.Test.YtbccfgeepdmegaaDoorTie
import Derived.Test.YtbccfgeepdmegaaDoorCards
import Derived.Test.YtbccfgeepdmegaaDoorSealB
import Derived.Carry
import Derived.WalkKit
import Derived.ProofKit
import Derived.Handy
import Derived.Lay
import Derived.OpenShut
import Derived.Deep.Slices
import Derived.Deep.Fields
import Derived.ChangeSame
import Derived.SevenTiedAt
set_option linter.unusedVariables false
set_option linter.unusedSimpArgs false
set_option linter.unnecessarySimpa false
namespace Go.Proofs.YtbccfgeepdmegaaDoor
set_option maxRecDepth 100000
open Go Go.ChangeShapes Go.WideShapes Go.ChangeAt Go.RowKit Go.Deep Mem
theorem own : ownKnob Tryd.prog.godebug = none := by kernel_rfl
theorem laid_out : laidOutB Tryd.prog = true := by kernel_rfl
theorem gK_named : Tryd.prog.globalNamed "antiquary/hash.constants" = some 0 := by kernel_rfl
theorem gK_type : (Tryd.prog.globals[0]?).map (·.type) = some 104 := by kernel_rfl
theorem laid_eq : (Rows.laid_antiquary_hash_constants : DataW Unit) = .agg (Sha.K.map fun (k : Nat) => .lit (.int .u32 (k : Int))) := by kernel_rfl
/-- a table of 64 numbers that reads as the row lists it -/
theorem table_at {W : World} {n : String} {g fuel : Nat} {cs : Array Value} {p : List MemPlace} (hg : Tryd.prog.globalNamed n = some g) (hv : W.var? Tryd.prog n = some cs)
    (hd : DataW.trod (fun _ => ()) Tryd.prog W 0 (fun _ => true) false fuel 104 cs.toList = some (Rows.laid_antiquary_hash_constants, p)) : At W g 0 (Sha.K.map vu32) := by
  obtain ⟨xs, m, rfl, hx, hlen, hn, hel⟩ := DataW.trod_array Tryd.underlying104 hd
  have c1 : Tryd.prog.cellsOf 81 = 1 := by kernel_rfl
  have c64 : Tryd.prog.cellsOf 104 = 64 := by kernel_rfl
  rw [c64] at hlen
  simp only [Prod.mk.injEq] at hx
  rw [laid_eq] at hx
  have hx1 : xs.map (·.1) = Sha.K.map fun (k : Nat) => DataW.lit (.int .u32 (k : Int)) := by
    have h := hx.1
    injection h with h
    exact h.symm
  intro i v hi
  rw [Nat.zero_add, World.var?_cell hg hv i]
  rw [List.getElem?_map] at hi
  obtain ⟨k, hk, rfl⟩ := Option.map_eq_some_iff.1 hi
  have hi64 : i < 64 := (List.getElem?_eq_some_iff.mp hk).1
  have he := hel i hi64
  rw [c1, Nat.mul_one] at he
  have hy := congrArg (fun l => l[i]?) hx1
  simp only [List.getElem?_map, hk, Option.map_some] at hy
  obtain ⟨y, hy1, hy2⟩ := Option.map_eq_some_iff.1 hy
  rw [hy1] at he
  obtain ⟨n', e1, e2, _⟩ := DataW.trod_int Tryd.underlying81 he
  rw [e2] at hy2
  have hn' : n' = k := by injection hy2 with h; injection h
  subst hn'
  have hc : cs.toList[i]? = some (.int .u32 k) := by
    have h2 := congrArg (fun l => l[0]?) e1
    simpa using h2
  rw [← Array.getElem?_toList, hc]
  rfl
theorem k_of_laid {W : World} (h : laidMetH Tryd.prog [("antiquary/hash.constants", Rows.laid_antiquary_hash_constants)] W) : At W 0 0 (Sha.K.map vu32) := by
  rw [MakeChecks.laidMetH_plain _ _ _ (by kernel_rfl)] at h
  obtain ⟨ps, ⟨g0, t0, cs0, f0, p0, q0, hg0, ht0, hv0, hd0, _⟩, _, _⟩ := h
  obtain rfl := Option.some.inj (gK_named.symm.trans hg0)
  obtain rfl := Option.some.inj (gK_type.symm.trans ht0)
  exact table_at gK_named hv0 hd0
theorem keysC_cell (l : List KeyD) (i j : Nat) (hi : i < l.length) (hj : j < 5) {n : Nat} (e : i * 5 + j = n) : (keysC l)[n]? = (kC l[i])[j]? := by
  subst e
  induction l generalizing i with
  | nil => simp at hi
  | cons k l ih =>
    have h5 : (kC k).length = 5 := rfl
    rw [show keysC (k :: l) = kC k ++ keysC l from rfl]
    cases i with
    | zero => rw [Nat.zero_mul, Nat.zero_add, List.getElem?_append_left (by omega)]; rfl
    | succ i =>
      rw [List.getElem?_append_right (by omega), h5, show (i + 1) * 5 + j - 5 = i * 5 + j by omega, ih i (by simpa using hi)]
      rfl
/-- the arguments read again behind a call that has turned nothing of what was there -/
theorem args_stay {H : Type} {enc : TypeId × Value → H} {W W' : World} (hb : Below W.heap.size W W') : ∀ (ts : List TypeId) (vs : List Value) (ds : List (DataW H)) (ps : List MemPlace),
    (∀ t ∈ ts, Tryd.prog.readableRec t = true ∧ t < Tryd.prog.types.size) → DataW.TrodAll enc Tryd.prog W 0 (fun _ => true) true ts vs ds ps → (∀ x ∈ ps, x.block < W.heap.size) →
    DataW.TrodAll enc Tryd.prog W' 0 (fun b => decide (b < W.heap.size)) true ts vs ds ps
  | [], [], [], _, _, h, _ => h
  | t :: ts, v :: vs, d :: ds, ps, ht, h, hl => by
    obtain ⟨p, q, h1, h2, rfl⟩ := h
    exact ⟨p, q, Below.trod laid_out (ht t (by simp)).1 (ht t (by simp)).2 h1 hb (fun x hx => hl x (by simp [hx])),
      args_stay hb ts vs ds q (fun t h => ht t (by simp [h])) h2 (fun x hx => hl x (by simp [hx])), rfl⟩
  | [], [], _ :: _, _, _, h, _ => h.elim
  | [], _ :: _, _, _, _, h, _ => by cases h
  | _ :: _, [], _, _, _, h, _ => by cases h
  | _ :: _, _ :: _, [], _, _, h, _ => by cases h
section
variable {H : Type} {enc : TypeId × Value → H} {W : World} {base : Nat} {spare : Nat → Bool} {held : Bool}
theorem wf64 {n : Int} (h : (Lit.int .i64 n).wf = true) : -9223372036854775808 ≤ n ∧ n < 9223372036854775808 := by
  have h2 : -9223372036854775808 ≤ n ∧ n ≤ 9223372036854775807 := by simpa [Lit.wf, IntKind.min, IntKind.max, IntKind.signed, IntKind.bits] using h
  omega
/-- five cells that read as a key -/
theorem key_of {fuel : Nat} {cs : List Value} {x : DataW H × List MemPlace} (h : DataW.trod enc Tryd.prog W base spare held fuel 24 cs = some x) : ∃ k : KeyD, k.ok ∧ cs = kC k := by
  obtain ⟨xs, n, _, _, hlen, hxl, hf⟩ := DataW.trod_struct Tryd.underlying24 h
  have c5 : Tryd.prog.cellsOf 24 = 5 := by kernel_rfl
  have ci : Tryd.prog.cellsOf 3 = 1 := by kernel_rfl
  have cs9 : Tryd.prog.cellsOf 9 = 1 := by kernel_rfl
  rw [c5] at hlen
  match cs, hlen, xs, hxl with
  | [a, b, c, d, e], _, [y0, y1, y2, y3, y4], _ =>
    obtain ⟨n0, e0, _, w0⟩ := DataW.trod_int (x := y0) Tryd.underlying3 (by simpa [ci] using hf 0 _ rfl)
    obtain ⟨n1, e1, _, w1⟩ := DataW.trod_int (x := y1) Tryd.underlying3 (by simpa [ci] using hf 1 _ rfl)
    obtain ⟨s2, e2, _, w2⟩ := DataW.trod_string (x := y2) Tryd.underlying9 (by simpa [cs9] using hf 2 _ rfl)
    obtain ⟨n3, e3, _, w3⟩ := DataW.trod_int (x := y3) Tryd.underlying3 (by simpa [ci] using hf 3 _ rfl)
    obtain ⟨n4, e4, _, w4⟩ := DataW.trod_int (x := y4) Tryd.underlying3 (by simpa [ci] using hf 4 _ rfl)
    cases e0; cases e1; cases e2; cases e3; cases e4
    exact ⟨⟨n0, n1, s2, n3, n4⟩, ⟨wf64 w0, wf64 w1, w2, wf64 w3, wf64 w4⟩, rfl⟩
/-- a key that is handed in -/
theorem open_key {v : Value} {d : DataW H} {p : List MemPlace} {b0 : Nat} {r : Reach} (hv : Value.okWide Tryd.prog W r b0 24 v) (h : DataW.Trod enc Tryd.prog W base spare held 24 v d p) : ∃ k : KeyD, k.ok ∧ v = kV k := by
  obtain ⟨cs, rfl, hsz⟩ := okWide_struct Tryd.underlying24 hv
  obtain ⟨fuel, hf⟩ := h
  obtain ⟨k, hk, e⟩ := key_of hf
  refine ⟨k, hk, ?_⟩
  have e2 : cs = (kC k).toArray := by rw [← e]; simp [Value.cells]
  rw [e2]
  rfl
/-- a list of keys that is handed in -/
theorem open_keys {v : Value} {d : DataW H} {p : List MemPlace} {b0 : Nat} {r : Reach} (hv : Value.okWide Tryd.prog W r b0 22 v) (h : DataW.Trod enc Tryd.prog W base spare held 22 v d p) :
    ∃ (A : Option Addr) (cap : Nat) (l : List KeyD), v = .slice A l.length cap ∧ Ks W A l ∧ (∀ k ∈ l, k.ok) ∧ l.length ≤ cap ∧ cap ≤ 9223372036854775807 ∧ (A = none → cap = 0) := by
  obtain ⟨A, len, cap, rfl⟩ := okWide_slice Tryd.underlying22 hv
  obtain ⟨fuel, hf⟩ := h
  have c5 : Tryd.prog.cellsOf 24 = 5 := by kernel_rfl
  rcases open_slice Tryd.underlying22 hf with ⟨hcs, _⟩ | ⟨a, len', cap', m, n, D, Pl, hcs, _, hl, hm, hmm, _, hi⟩
  · simp only [Value.cells, List.cons.injEq, Value.slice.injEq, and_true] at hcs
    obtain ⟨rfl, rfl, rfl⟩ := hcs
    exact ⟨none, 0, [], rfl, fun hn => by simp [keysC] at hn, fun _ h => by simp at h, by simp, by omega, fun _ => rfl⟩
  · simp only [Value.cells, List.cons.injEq, Value.slice.injEq, and_true] at hcs
    obtain ⟨rfl, rfl, rfl⟩ := hcs
    have hlm : len ≤ m := by rw [hmm]; split <;> omega
    have hex : ∀ i, i < len → ∃ k : KeyD, k.ok ∧ ∀ j, j < 5 → W.cell? (a.add (i * 5 + j)) = (kC k)[j]? := fun i hil => by
      obtain ⟨cs', hc, ht⟩ := hi i (by omega)
      rw [c5] at hc
      obtain ⟨k, hk, e⟩ := key_of ht
      obtain ⟨_, _, hat⟩ := World.cells?_some hc
      exact ⟨k, hk, fun j hj => by rw [← add_add, hat j hj, e]⟩
    obtain ⟨f, hfk⟩ : ∃ f : Nat → KeyD, ∀ i, i < len → (f i).ok ∧ ∀ j, j < 5 → W.cell? (a.add (i * 5 + j)) = (kC (f i))[j]? := by
      refine ⟨fun i => if h : i < len then (hex i h).choose else ⟨0, 0, ⟨#[]⟩, 0, 0⟩, fun i hil => ?_⟩
      simp only [hil, dif_pos]
      exact (hex i hil).choose_spec
    refine ⟨some a, cap, (List.range len).map f, by simp, fun hn => ?_, fun k hk => ?_, by simpa using hl, hm, fun h => by cases h⟩
    · rw [keysC_length] at hn
      have hlen : 0 < len := by simpa using hn
      have hsp : a.spot = none := by
        have h0 := (hfk 0 hlen).2 0 (by omega)
        simp only [Nat.zero_mul, Nat.add_zero, Addr.add, if_true] at h0
        cases hs : a.spot with
        | none => rfl
        | some x =>
          have : W.cell? a = none := by
            unfold World.cell?
            split
            · simp [hs]
            · rfl
          rw [this] at h0
          simp [kC] at h0
      obtain ⟨b, off, sp⟩ := a
      simp only at hsp
      subst hsp
      refine ⟨b, off, rfl, fun i v hv => ?_⟩
      have hil : i < len * 5 := by
        have h := (List.getElem?_eq_some_iff.mp hv).1
        rw [keysC_length] at h
        simpa using h
      have hk := (hfk (i / 5) (by omega)).2 (i % 5) (by omega)
      have e : i / 5 * 5 + i % 5 = i := by omega
      rw [e] at hk
      have e2 : (Addr.add ⟨b, off, none⟩ i) = ⟨b, off + i, none⟩ := by
        unfold Addr.add
        split
        · rename_i h; rw [h, Nat.add_zero]
        · rfl
      rw [e2] at hk
      rw [hk, ← hv]
      exact (by rw [keysC_cell _ (i / 5) (i % 5) (by simp; omega) (by omega) e]; simp)
    · obtain ⟨i, hi2, rfl⟩ := List.mem_map.1 hk
      exact (hfk i (List.mem_range.1 hi2)).1
end
end Go.Proofs.YtbccfgeepdmegaaDoor
