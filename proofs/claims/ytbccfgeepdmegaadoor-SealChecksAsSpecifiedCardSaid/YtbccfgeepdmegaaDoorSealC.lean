/- Walks: place, Find. -/
import Derived.Test.YtbccfgeepdmegaaDoorSealB
import Derived.Test.YtbccfgeepdmegaaDoorRets
set_option linter.unusedVariables false
set_option linter.unusedSimpArgs false
set_option linter.unnecessarySimpa false
namespace Go.Proofs.YtbccfgeepdmegaaDoor
open Go Go.RowKit Mem
theorem veil_lk {d : Option Tmp} {x : Operand} {t : TypeId} {p : String} {af : Array Edge} {a : Act} {w : World} {K : Act → World → Prop} {Q : Exit → Act → World → Prop} : Oper.wp Tryd.prog ⟨d, .load 24 x, t, p, af, none⟩ a w K Q = Vlt Tryd.prog ⟨d, .load 24 x, t, p, af, none⟩ a w K Q := vl_eq
theorem veil_sk {d : Option Tmp} {x y : Operand} {t : TypeId} {p : String} {af : Array Edge} {a : Act} {w : World} {K : Act → World → Prop} {Q : Exit → Act → World → Prop} : Oper.wp Tryd.prog ⟨d, .store 24 x y, t, p, af, none⟩ a w K Q = Vlt Tryd.prog ⟨d, .store 24 x y, t, p, af, none⟩ a w K Q := vl_eq
theorem kC_ones (k : KeyD) : ones (kC k) := fun v hv => by
  simp only [kC, List.mem_cons, List.not_mem_nil, or_false] at hv
  rcases hv with rfl | rfl | rfl | rfl | rfl <;> rfl
theorem kC_size (k : KeyD) : (Tryd.prog.info? 24).map (·.size) = some (kC k).length := by show _ = some 5; kernel_rfl
theorem kC_len (a b : KeyD) : (kC a).length = (kC b).length := rfl
attribute [local go_sem ↓] Go.wp_at_zero Go.wp_at_succ veil_lk veil_sk
/-- the empty string of a key that is only sought -/
def key0 (p s : Int) : KeyD := ⟨p, s, ⟨#[]⟩, 0, 0⟩
set_option maxRecDepth 100000 in
theorem place_any (A : Option Addr) (cap : Nat) (l : List KeyD) (p s : Int) (w : World) (hl : Ks w A l) (hs : sorted l) (hn : l.length ≤ 1000000) :
    Calls Tryd.prog 36 #[.slice A l.length cap, .int .i64 p, .int .i64 s] w fun e w' => ∃ i : Nat, IsPlace l p s i ∧ e = .returned (.tuple #[.int .i64 i, .bool (found l p s i)]) ∧ Below w.heap.size w w' := by
  have hc := fun W h => search_any A cap l (key0 p s) W h hs hn
  replace hc := hide hc
  replace hs := hide hs
  go_enter Tryd.func36, Tryd.ntmps36
  go_wp2_with (go_at_call 49; refine (hc.out _ hl).mono ?_; rintro e w' ⟨i, hi, rfl, hb⟩)
  go_ret2
  exact ⟨i, hi, rfl, hb⟩
/-- what Find returns -/
def findK (l : List KeyD) (p s : Int) : KeyD := (find l p s).getD (key0 0 0)
def findE (l : List KeyD) (p s : Int) : Int := if (find l p s).isSome then 0 else 5
theorem findK_some {l : List KeyD} {p s : Int} {k : KeyD} (h : find l p s = some k) : findK l p s = k := by unfold findK; rw [h]; rfl
theorem findE_some {l : List KeyD} {p s : Int} {k : KeyD} (h : find l p s = some k) : findE l p s = 0 := by unfold findE; rw [h]; rfl
theorem findK_none {l : List KeyD} {p s : Int} (h : find l p s = none) : findK l p s = key0 0 0 := by unfold findK; rw [h]; rfl
theorem findE_none {l : List KeyD} {p s : Int} (h : find l p s = none) : findE l p s = 5 := by unfold findE; rw [h]; rfl
attribute [irreducible] findK findE
theorem found_find {l : List KeyD} {p s : Int} {i : Nat} (h : IsPlace l p s i) (hf : found l p s i = true) : ∃ k, l[i]? = some k ∧ i < l.length ∧ find l p s = some k := by
  by_cases hi : i < l.length
  · have hk := List.getElem?_eq_getElem hi
    rw [found_some hk] at hf
    exact ⟨_, hk, hi, find_at h hk hf⟩
  · rw [found_none (by omega)] at hf; cases hf
theorem notfound_find {l : List KeyD} {p s : Int} {i : Nat} (hs : sorted l) (h : IsPlace l p s i) (hf : found l p s i = false) : find l p s = none :=
  find_none hs h (fun k hk => by rw [found_some hk] at hf; exact hf)
theorem find_found {l : List KeyD} {p s : Int} {i : Nat} {k : KeyD} (hs : sorted l) (h : IsPlace l p s i) (hf : find l p s = some k) : found l p s i = true ∧ l[i]? = some k ∧ i < l.length := by
  cases hfo : found l p s i with
  | false => rw [notfound_find hs h hfo] at hf; cases hf
  | true =>
    obtain ⟨k', hk, hi, e⟩ := found_find h hfo
    rw [hf] at e; cases e
    exact ⟨rfl, hk, hi⟩
theorem find_nofound {l : List KeyD} {p s : Int} {i : Nat} (h : IsPlace l p s i) (hf : find l p s = none) : found l p s i = false := by
  cases hfo : found l p s i with
  | false => rfl
  | true =>
    obtain ⟨k', _, _, e⟩ := found_find h hfo
    rw [hf] at e; cases e
theorem find_ne {l : List KeyD} {p s : Int} {k : KeyD} (hf : find l p s = some k) : 0 < (keysC l).length := by
  rw [keysC_length]
  cases l with
  | nil => cases hf
  | cons a l => simp
set_option maxRecDepth 100000 in
theorem find_any (A : Option Addr) (cap : Nat) (l : List KeyD) (p s : Int) (w : World) (hl : Ks w A l) (hs : sorted l) (hn : l.length ≤ 1000000) :
    Calls Tryd.prog 15 #[.slice A l.length cap, .int .i64 p, .int .i64 s] w fun e w' => e = .returned (.tuple #[kV (findK l p s), .int .i64 (findE l p s)]) ∧ Below w.heap.size w w' := by
  have hc := fun W h => place_any A cap l p s W h hs hn
  have hb0 := (Below.refl w.heap.size w).alloc (Nat.le_refl _) (.cells (kC (key0 0 0)).toArray 24)
  have hB := Blk.new w (kC (key0 0 0)) 24
  have hl0 := Rd.alloc hl (.cells (kC (key0 0 0)).toArray 24)
  have hks := fun k => hide (kC_size k)
  have hkl := fun a b => hide (kC_len a b)
  have hko := fun k => hide (kC_ones k)
  cases hfd : find l p s with
  | none =>
    rw [findK_none hfd, findE_none hfd]
    replace hfd := hide hfd
    replace hc := hide hc
    replace hs := hide hs
    go_enter Tryd.func15, Tryd.ntmps15
    go_wp2_with (first
      | (go_at_call 36; refine (hc.out _ hl0).mono ?_; rintro e w2 ⟨i, hi, rfl, hb⟩; rw [find_nofound hi hfd.out]; have B2 := ext_trans hb0 hb; have D2 := hB.ext hb)
      | (refine vl_store w.heap.size 24 (kC (key0 0 0)) (kC (key0 0 0)) (by rfl) (by rfl) D2 (hks _).out (hkl _ _).out (hko _).out ?_))
    exact ret_blk_tmp rfl w.heap.size _ _ _ rfl (D2.setRow _) Tryd.underlying24 rfl (hks _).out rfl _ rfl ⟨rfl, below_setRow B2 (Nat.le_refl _) _⟩
  | some k =>
    rw [findK_some hfd, findE_some hfd]
    obtain ⟨b, off, rfl, hat⟩ := hl (find_ne hfd)
    replace hfd := hide hfd
    replace hc := hide hc
    replace hs := hide hs
    go_enter Tryd.func15, Tryd.ntmps15
    go_wp2_with (first
      | (go_at_call 36; go_loud (refine (hc.out _ hl0).mono ?_; rintro e w2 ⟨i, hi, rfl, hb⟩; have hf := find_found hs.out hi hfd.out; rw [hf.1]; have i1 : (i : Int) < (l.length : Int) := (by have := hf.2.2; omega); have i2 : (0 : Int) ≤ (i : Int) := (by omega); have B2 := ext_trans hb0 hb; have D2 := hB.ext hb; have hat2 := keysC_at ((hat.alloc _).below hb) hf.2.1; replace hf := hide hf))
      | (refine vl_load_at b (off + i * 5) (kC k) _ (by rfl) hat2 Tryd.underlying24 (by rfl) (hks _).out ?_)
      | (refine vl_store w.heap.size 24 (kC k) (kC (key0 0 0)) (by rfl) (by rfl) D2 (hks _).out (hkl _ _).out (hko _).out ?_))
    exact ret_blk_tmp rfl w.heap.size _ _ _ rfl (D2.setRow _) Tryd.underlying24 rfl (hks _).out rfl _ rfl ⟨rfl, below_setRow B2 (Nat.le_refl _) _⟩
end Go.Proofs.YtbccfgeepdmegaaDoor
