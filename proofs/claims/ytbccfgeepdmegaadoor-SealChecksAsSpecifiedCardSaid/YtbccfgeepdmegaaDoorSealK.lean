/- Walks: slices.Clone, end, Rotate, Revoke. -/
import Derived.Test.YtbccfgeepdmegaaDoorSealH
set_option linter.unusedVariables false
set_option linter.unusedSimpArgs false
set_option linter.unnecessarySimpa false
namespace Go.Proofs.YtbccfgeepdmegaaDoor
open Go Go.RowKit Mem
attribute [local go_sem ↓] Go.wp_at_zero Go.wp_at_succ veil_lk veil_sk
theorem own_empty (w : World) (e size : Nat) : (w.alloc (.cells #[] e)).ownsRow w.heap.size e size (.slice (some ⟨w.heap.size, 0, none⟩) 0 0) 0 [] :=
  ⟨by simp, .inr ⟨w.heap.size, 0, #[], rfl, Nat.le_refl _, heap_alloc_new w _, Nat.le_refl _, by decide, by simp, by simp⟩⟩
set_option maxRecDepth 100000 in
set_option maxHeartbeats 4000000 in
theorem clone_keys (A : Option Addr) (cap : Nat) (l : List KeyD) (w : World) (hl : Ks w A l) (hn : l.length ≤ 1000000) :
    Calls Tryd.prog 59 #[.slice A l.length cap] w fun e w' => ∃ v, e = .returned v ∧ w'.ownsRow w.heap.size 24 5 v l.length (keysC l) ∧ Below w.heap.size w w' := by
  obtain ⟨i0, hi0, hi1, hi2, hi3⟩ := info_parts info_key
  replace hi0 := hide hi0
  replace hi1 := hide hi1
  replace hi2 := hide hi2
  replace hi3 := hide hi3
  cases A with
  | none =>
    have h0 : l = [] := by
      cases l with
      | nil => rfl
      | cons a l =>
        obtain ⟨b, off, e, _⟩ := hl (by rw [keysC_length]; simp)
        cases e
    subst h0
    have kn := fun w a n c => Lib.run_eql_slice_nil (P := Tryd.prog) w 22 24 a n c 0 0 Tryd.underlying22
    go_enter Tryd.func59, Tryd.ntmps59
    go_wp2_with fail
    go_ret
    exact ⟨_, rfl, ⟨rfl, .inl ⟨rfl, rfl⟩⟩, Below.refl _ _⟩
  | some a =>
    have kn := fun w a n c => Lib.run_eql_slice_nil (P := Tryd.prog) w 22 24 a n c 0 0 Tryd.underlying22
    have hL := Rd.alloc hl (.cells #[] 24)
    have hs := Src.of_rd hL (keysC_length l) (by decide)
    have ho := keysC_ones l
    have own0 := own_empty w 24 5
    have hb := (Below.refl w.heap.size w).alloc (Nat.le_refl _) (.cells #[] 24)
    replace hs := hide hs
    replace own0 := hide own0
    replace ho := hide ho
    go_enter Tryd.func59, Tryd.ntmps59
    go_wp2_with (at_builtin; refine wpList_append_src rfl (.tmp 5) (.tmp 6) 22 rfl w.heap.size 24 i0 (kV (key0 0 0)) 5 48 Tryd.underlying22 hi0.out hi1.out hi2.out hi3.out rfl (by decide) _ 0 [] (by rfl) own0.out (some a) l.length cap (keysC l) (by rfl) hs.out ho.out ?c1 ?c2 ?c3 ?_; (case c1 => simp only [maxLen]; omega); (case c2 => omega); (case c3 => simp); intro v1 w1 own1 g1; have B1 := below_grown1 hb (by simp) own0.out (Nat.le_refl _) g1)
    go_ret
    rw [Nat.zero_add, List.nil_append] at own1
    exact ⟨_, rfl, own1, B1⟩
/-- a cell of an owned row is set: the row reads as the list with that element set -/
theorem own_set {w : World} {base e size n g cap : Nat} {xs : List Value} (h : w.ownsRow base e size (.slice (some ⟨g, 0, none⟩) n cap) n xs) (i : Nat) (hi : i < n * size) (u : Value) : (w.setCell ⟨g, i, none⟩ u).ownsRow base e size (.slice (some ⟨g, 0, none⟩) n cap) n (xs.set i u) := by
  obtain ⟨hl, h2⟩ := h
  refine ⟨by rw [List.length_set]; exact hl, ?_⟩
  rcases h2 with ⟨e1, _⟩ | ⟨g', cap', cur, e1, hg, hh, hc, hm, hs, hx⟩
  · cases e1
  · cases e1
    refine .inr ⟨g, cap, cur.setIfInBounds i u, rfl, hg, heap_setCell_same w g i cur _ u hh, hc, hm, by simpa using hs, ?_⟩
    rw [Array.toList_setIfInBounds, ← hx, List.take_set]
theorem keysC_get {l : List KeyD} {i : Nat} {k : KeyD} (hk : l[i]? = some k) : (keysC l)[i * 5 + 4]? = some (.int .i64 k.to) := by
  obtain ⟨hi, rfl⟩ := List.getElem?_eq_some_iff.mp hk
  have h := congrArg (·[4]?) (keysC_drop l i)
  simp only [List.getElem?_drop] at h
  rw [h, ← List.getElem_cons_drop hi]; rfl
/-- the key with an end -/
def capped (k : KeyD) (d : Int) : KeyD := ⟨k.party, k.serial, k.secret, k.fr, min k.to d⟩
theorem keysC_set (l : List KeyD) (i : Nat) (k : KeyD) (d : Int) (hk : l[i]? = some k) : (keysC l).set (i * 5 + 4) (.int .i64 (min k.to d)) = keysC (l.set i (capped k d)) := by
  obtain ⟨hi, rfl⟩ := List.getElem?_eq_some_iff.mp hk
  have e1 : l = l.take i ++ (l[i] :: l.drop (i + 1)) := by rw [List.getElem_cons_drop, List.take_append_drop]
  have h : (keysC (l.take i)).length = i * 5 := by rw [keysC_length, List.length_take, Nat.min_eq_left (by omega)]
  have e2 : keysC l = keysC (l.take i) ++ (kC l[i] ++ keysC (l.drop (i + 1))) := by
    conv => lhs; rw [e1]
    rw [keysC_append]; rfl
  have e3 : keysC (l.set i (capped l[i] d)) = keysC (l.take i) ++ (kC (capped l[i] d) ++ keysC (l.drop (i + 1))) := by
    rw [List.set_eq_take_append_cons_drop, if_pos hi, keysC_append]; rfl
  rw [e2, e3, List.set_append_right _ _ (by omega), h, show i * 5 + 4 - i * 5 = 4 by omega]
  rfl
theorem own_addr {w : World} {base e size n c : Nat} {A : Option Addr} {xs : List Value} (h : w.ownsRow base e size (.slice A n c) n xs) (hn : 0 < n) : ∃ g, A = some ⟨g, 0, none⟩ ∧ base ≤ g ∧ (∀ i u, xs[i]? = some u → w.cell? ⟨g, i, none⟩ = some u) ∧ ∀ i, w.frozen? ⟨g, i, none⟩ = false := by
  rcases h.2 with ⟨e1, h0⟩ | ⟨g, cap, cur, e1, hg, hh, hc, hm, hs, hx⟩
  · omega
  · cases e1
    refine ⟨g, rfl, hg, fun i u hi => ?_, fun i => frozen_of_row w g i cur e hh⟩
    rw [cell_of_row w g i cur e (0, 0) hh]
    rw [← hx, List.getElem?_take] at hi
    split at hi
    · simpa using hi
    · cases hi
set_option maxRecDepth 100000 in
set_option maxHeartbeats 4000000 in
theorem end_keys (A : Option Addr) (cap : Nat) (l : List KeyD) (k : KeyD) (d : Int) (w : World) (hl : Ks w A l) (hs : sorted l) (hn : l.length ≤ 1000000) (hf : find l k.party k.serial = some k) :
    Calls Tryd.prog 45 #[.slice A l.length cap, kV k, .int .i64 d] w fun e w' => ∃ v, e = .returned v ∧ KsF w' v (put l (capped k d)) ∧ Below w.heap.size w w' := by
  have hb := (Below.refl w.heap.size w).alloc (Nat.le_refl _) (.cells (kC k).toArray 24)
  have hX := Blk.new w (kC k) 24
  have hL := Ks.below hl hb
  obtain ⟨W, hW, hX, hb, hL⟩ : ∃ W, W = w.alloc (.cells #[.int .i64 k.party, .int .i64 k.serial, .string k.secret, .int .i64 k.fr, .int .i64 k.to] 24) ∧ Blk W w.heap.size 24 (kC k) ∧ Below w.heap.size w W ∧ Ks W A l := ⟨_, rfl, hX, hb, hL⟩
  obtain ⟨c0, c1, c2, c3, c4⟩ := kbox hX
  replace hs := hide hs
  replace hf := hide hf
  have hn0 : 0 < l.length := by have := find_ne hf.out; rw [keysC_length] at this; omega
  unfold kV
  go_enter Tryd.func45, Tryd.ntmps45
  go_upto_region 1 with fail
  rw [← hW]
  clear hW
  go_wp2_with (first
    | (go_at_call 59; refine (clone_keys A cap l W hL hn).mono ?_; rintro e w2 ⟨v, rfl, own2, hb2⟩; have X2 := hX.ext hb2; have B2 := ext_trans hb hb2; obtain ⟨A2, cap2, e2, K2, ge2⟩ := own_ksv2 own2; rw [e2] at own2; rw [e2]; clear e2; obtain ⟨d0, d1, d2, d3, d4⟩ := kbox X2; obtain ⟨g, eg, hgb, hgc, hgf⟩ := own_addr own2 hn0; rw [eg] at own2 K2; rw [eg])
    | (go_at_call 36; refine (place_any (some ⟨g, 0, none⟩) cap2 l k.party k.serial w2 K2 hs.out hn).mono ?_; rintro e w3 ⟨i, hi, rfl, hb3⟩; have hff := find_found hs.out hi hf.out; rw [hff.1]; have X3 := X2.ext hb3; have B3 := ext_trans B2 hb3; have own3 := own_below own2 hb3; obtain ⟨q0, q1, q2, q3, q4⟩ := kbox X3; obtain ⟨g', eg', hgb', hgc3, hgf3⟩ := own_addr own3 hn0; cases eg'; have hkl := hff.2.1; have i1 : (i : Int) < (l.length : Int) := (by have := hff.2.2; omega); have i2 : (0 : Int) ≤ (i : Int) := (by omega); have hcc := hgc3 (i * 5 + 4) (.int .i64 k.to) (by have h := keysC_at (w := w3) (b := g) (off := 0) (fun x u hx => by rw [Nat.zero_add]; exact hgc3 x u hx) hkl; exact keysC_get hkl); have hcf := hgf3 (i * 5 + 4); replace hff := hide hff; replace hgc3 := hide hgc3; replace hgf3 := hide hgf3; replace hgc := hide hgc; replace hgf := hide hgf; replace hkl := hide hkl))
  all_goals
    have hput : put l (capped k d) = l.set i (capped k d) := put_set hs.out (k := capped k d) hi hkl.out ((KeyD.is_iff _ _ _).2 ⟨rfl, rfl⟩)
    have hset := own_set own3 (i * 5 + 4) (by omega) (.int .i64 (min k.to d))
    rw [keysC_set l i k d hkl.out, ← hput, show l.length = (put l (capped k d)).length by rw [hput, List.length_set]] at hset
    have hbb := hb.size
    have hB := B3.setCell (p := ⟨g, i * 5 + 4, none⟩) (Nat.le_trans hbb hgb) (.int .i64 (min k.to d))
    have hl2 : (put l (capped k d)).length = l.length := by rw [hput, List.length_set]
  · have em : min k.to d = d := by omega
    rw [em] at hset hB
    go_ret
    exact ⟨_, rfl, by have := own_ksf hset; rw [hl2] at this; exact this, hB⟩
  · have em : min k.to d = k.to := by omega
    rw [em] at hset hB
    go_ret
    exact ⟨_, rfl, by have := own_ksf hset; rw [hl2] at this; exact this, hB⟩
end Go.Proofs.YtbccfgeepdmegaaDoor
