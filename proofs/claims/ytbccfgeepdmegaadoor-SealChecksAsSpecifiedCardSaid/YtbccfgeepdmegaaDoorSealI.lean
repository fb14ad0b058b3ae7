/- Walk: slices.Backward over keys. -/
import Derived.Test.YtbccfgeepdmegaaDoorSealH
import Derived.RangeFuncNested
import Derived.RangeFuncBound
import Derived.RangeFuncCalls
import Derived.RangeFuncLeaves
import Derived.Shelf.Abstract
import Derived.Shelf.RegionOpen
import Derived.OwnWalkIn
import Derived.TacticsInMore
import Derived.LoopNIn
import Derived.LoopIn
set_option linter.unusedVariables false
set_option linter.unusedSimpArgs false
set_option linter.unnecessarySimpa false
namespace Go.Proofs.YtbccfgeepdmegaaDoor
open Go Go.RowKit Go.Shelf Mem
attribute [local go_sem] Oper.semAt_some
/-- what a round is handed: an index, a valid key -/
abbrev IK := Int × { k : KeyD // k.valid = true }
def IKenc (x : IK) : Array Value := #[.int .i64 x.1, kV x.2.1]
/-- the first k that come, from behind -/
def revs (seg : List { k : KeyD // k.valid = true }) (j : Nat) : List IK := (List.range j).filterMap (fun x => (seg[seg.length - 1 - x]?).map (fun k => ((seg.length : Int) - 1 - (x : Int), k)))
theorem revs_succ {seg : List { k : KeyD // k.valid = true }} {j : Nat} {k : { k : KeyD // k.valid = true }} (hk : seg[seg.length - 1 - j]? = some k) : revs seg (j + 1) = revs seg j ++ [((seg.length : Int) - 1 - (j : Int), k)] := by
  unfold revs
  rw [List.range_succ, List.filterMap_append]; simp [hk]
theorem revs_keys {seg : List { k : KeyD // k.valid = true }} {j : Nat} (hj : j ≤ seg.length) : (revs seg j).map (·.2.1) = ((seg.map (·.1)).reverse).take j := by
  induction j with
  | zero => simp [revs]
  | succ j ih =>
    have hl : seg.length - 1 - j < seg.length := by omega
    rw [revs_succ (List.getElem?_eq_getElem hl), List.map_append, ih (by omega), List.take_succ_eq_append_getElem (by simp; omega)]
    congr 1
    simp [List.getElem_reverse]
theorem revs_length {seg : List { k : KeyD // k.valid = true }} {j : Nat} (hj : j ≤ seg.length) : (revs seg j).length = j := by
  have h := congrArg List.length (revs_keys hj)
  simp at h; omega
attribute [irreducible] revs
set_option maxRecDepth 100000 in
set_option maxHeartbeats 4000000 in
theorem back1_in (F : Fence) (n : Nat) (h7 : F.fn 51) (hro : F.round = none) (hn : 1 ≤ n) (l Bs n₀ : Nat) (A : Option Addr) (cap : Nat) (seg : List { k : KeyD // k.valid = true }) (hlen : seg.length ≤ 1000000) (hA : 0 < seg.length → ∀ b off, A = some ⟨b, off, none⟩ → b < n₀) (J Jx : List IK → World → Prop)
    (hY : ∀ pre x W, J pre W → pre.length < seg.length → YieldAt F (n - 1) Tryd.prog l (IKenc x) W fun e W' =>
      (e = .returned (.bool true) ∧ J (pre ++ [x]) W' ∧ Below n₀ W W') ∨ (e = .returned (.bool false) ∧ Jx (pre ++ [x]) W'))
    (W : World) (hBn : Bs < n₀) (hBs : W.cell? ⟨Bs, 0, none⟩ = some (.slice A seg.length cap)) (hL : Ks W A (seg.map (·.1))) (h0 : J [] W) :
    CallsIn F n Tryd.prog 51 #[.func (.yield l) #[] #[], .pointer (some ⟨Bs, 0, none⟩)] W fun e W' => (∃ v, e = .returned v) ∧
      ((∃ ys : List IK, ys.map (·.2.1) = (seg.map (·.1)).reverse ∧ J ys W') ∨ (∃ pre : List IK, pre.map (·.2.1) <+: (seg.map (·.1)).reverse ∧ Jx pre W')) := by
  have hY2 := hide hY
  clear hY
  refine callsIn_of_wp Tryd.func51 rfl h7 ?_ hro
  simp only [Tryd.ntmps51, List.size_toArray, List.length_cons, List.length_nil, Nat.reduceAdd, Nat.reduceSub, Array.replicate_succ, Array.replicate_zero, List.push_toArray, List.append_toArray, List.nil_append, List.cons_append]
  gi_wp2
  gi_loopw [3] (fun i wr => ∃ (j : Nat) (m : Int), i = .int .i64 m ∧ Hid (m = (seg.length : Int) - 1 - (j : Int)) ∧ j ≤ seg.length ∧ J (revs seg j) wr ∧ Below n₀ W wr) (fun i _ => (intOf i + 1).toNat)
  case atStart => exact ⟨0, _, rfl, hide (by omega), Nat.zero_le _, by unfold revs; exact h0, Below.refl _ _⟩
  case round =>
    obtain ⟨j, m, rfl, hm, hj, hJs, hnx⟩ := hrel
    have hBs2 := (hnx.cell (p := ⟨Bs, 0, none⟩) hBn).trans hBs
    by_cases hlt : j < seg.length
    · obtain ⟨idx, rfl⟩ : ∃ idx : Nat, m = idx := ⟨seg.length - 1 - j, by have := hm.out; omega⟩
      have hidx : idx = seg.length - 1 - j := by have := hm.out; omega
      have hi2 : idx < seg.length := by omega
      have i1 : (idx : Int) < (seg.length : Int) := by omega
      have i2 : (0 : Int) ≤ (idx : Int) := by omega
      obtain ⟨k, hk⟩ : ∃ k, seg[idx]? = some k := ⟨seg[idx], List.getElem?_eq_getElem hi2⟩
      obtain ⟨b, off, e, hbl, hkc⟩ := Ks.get hL (i := idx) (k := k.1) (by rw [List.getElem?_map, hk]; rfl)
      have hrs := hide (revs_succ (j := j) (by rw [← hidx]; exact hk))
      have hb0 := hA (by omega) b off e
      have hkc2 : At wr b (off + idx * 5) (kC k.1) := fun x u hu => (hnx.cell (p := ⟨b, off + idx * 5 + x, none⟩) hb0).trans (hkc x u hu)
      obtain ⟨c0, c1, c2, c3, c4⟩ := kcell hkc2
      obtain ⟨fn, tmps, assign, body, hy, hR⟩ := hY2.out _ ((idx : Int), k) wr hJs (by rw [revs_length hj]; exact hlt)
      simp only [IKenc, kV] at hy
      have hm2 := hide hm.out
      subst e
      replace hidx := hide hidx
      replace hk := hide hk
      clear hm
      gi_wp2
      refine hR.mono ?_
      rintro e W3 (⟨rfl, hJ3, hk3⟩ | ⟨rfl, hJx3⟩)
      · gi_wp2
        go_roundw
        case rel =>
          have e1 : revs seg j ++ [((idx : Int), k)] = revs seg (j + 1) := by rw [hrs.out, hm2.out]
          exact ⟨j + 1, (idx : Int) - 1, rfl, hide (by have := hm2.out; omega), by omega, by rw [← e1]; exact hJ3, hnx.trans hk3⟩
        case measure => simp [intOf]
      · gi_wp2
        refine bodyPost_ret (results_none rfl _ _ _) rfl ?_
        have e1 : revs seg j ++ [((idx : Int), k)] = revs seg (j + 1) := by rw [hrs.out, hm2.out]
        exact ⟨⟨_, rfl⟩, .inr ⟨revs seg j ++ [((idx : Int), k)], by rw [e1, revs_keys (by omega)]; exact List.take_prefix _ _, hJx3⟩⟩
    · obtain rfl : j = seg.length := by omega
      have hm1 : m < 0 := by have := hm.out; omega
      gi_wp2
      go_end0
      exact ⟨⟨_, rfl⟩, .inl ⟨_, by rw [revs_keys (Nat.le_refl _), List.take_of_length_le (by simp)], hJs⟩⟩
theorem back_in (F : Fence) (n : Nat) (h5 : F.fn 38) (hro : F.round = none) (a : Option Addr) (len cap : Nat) (w : World) :
    CallsIn F n Tryd.prog 38 #[.slice a len cap] w fun e w' => e = .returned (.func (.func 51) #[] #[.pointer (some ⟨w.heap.size, 0, none⟩)]) ∧ w' = w.alloc (.cells #[.slice a len cap] 22) := by
  refine callsIn_of_wp Tryd.func38 rfl h5 ?_ hro
  simp only [Tryd.ntmps38, List.size_toArray, List.length_cons, List.length_nil, Nat.reduceAdd, Nat.reduceSub, Array.replicate_succ, Array.replicate_zero, List.push_toArray, List.append_toArray, List.nil_append, List.cons_append]
  gi_wp2
  go_ret
  exact ⟨rfl, rfl⟩
theorem back_stops (F : Fence) (n : Nat) (h7 : F.fn 51) (hro : F.round = none) (hn : 1 ≤ n) (Bs n₀ : Nat) (A : Option Addr) (cap : Nat) (seg : List { k : KeyD // k.valid = true }) (hlen : seg.length ≤ 1000000) (w : World) (hBs : Bs < n₀) (hn₀ : n₀ ≤ w.heap.size)
    (hA : 0 < seg.length → ∀ b off, A = some ⟨b, off, none⟩ → b < n₀) (hc : w.cell? ⟨Bs, 0, none⟩ = some (.slice A seg.length cap)) (hI : Ks w A (seg.map (·.1))) :
    SeqStopsK F n Tryd.prog 51 #[.pointer (some ⟨Bs, 0, none⟩)] IKenc (Below n₀) (fun ys => ys.map (·.2.1) = (seg.map (·.1)).reverse) (fun pre => pre.map (·.2.1) <+: (seg.map (·.1)).reverse) seg.length w := fun l J Jx W hW _ _ hY h0 => by
  have hc' := (hW.cell (p := ⟨Bs, 0, none⟩) (Nat.lt_of_lt_of_le hBs hn₀)).trans hc
  exact back1_in F n h7 hro hn l Bs n₀ A cap seg hlen hA J Jx hY W hBs hc' (Ks.below hI hW) h0
end Go.Proofs.YtbccfgeepdmegaaDoor
