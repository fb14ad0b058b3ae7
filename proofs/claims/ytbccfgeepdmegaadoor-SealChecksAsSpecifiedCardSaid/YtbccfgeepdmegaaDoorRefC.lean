/- Walks: the reference's Add, Same. -/
import Derived.Test.YtbccfgeepdmegaaDoorRefB
set_option linter.unusedVariables false
set_option linter.unusedSimpArgs false
set_option linter.unnecessarySimpa false
namespace Go.Proofs.YtbccfgeepdmegaaDoor
open Go Go.RowKit Mem
attribute [local go_sem ↓] Go.wp_at_zero Go.wp_at_succ veil_lk veil_sk veil_ld37 veil_st37
/-- a slice value that reads as the keys l -/
def KsV (w : World) (v : Value) (l : List KeyD) : Prop := ∃ A cap, v = .slice A l.length cap ∧ Ks w A l
theorem own_ksv {w : World} {base : Nat} {v : Value} {l : List KeyD} (h : w.ownsRow base 24 5 v l.length (keysC l)) : KsV w v l := by
  rcases h.2 with ⟨rfl, h0⟩ | ⟨g, cap, cur, rfl, hg, hh, hc, hm, hs, hx⟩
  · exact ⟨none, 0, by rw [h0], fun hn => by rw [keysC_length] at hn; omega⟩
  · refine ⟨some ⟨g, 0, none⟩, cap, rfl, fun _ => ⟨g, 0, rfl, fun i u hi => ?_⟩⟩
    rw [Nat.zero_add, cell_of_row w g i cur 24 (0, 0) hh]
    rw [← hx, List.getElem?_take] at hi
    split at hi
    · simpa using hi
    · cases hi
theorem own_ksv2 {w : World} {base : Nat} {v : Value} {l : List KeyD} (h : w.ownsRow base 24 5 v l.length (keysC l)) : ∃ A cap, v = .slice A l.length cap ∧ Ks w A l ∧ ∀ b off, A = some ⟨b, off, none⟩ → base ≤ b := by
  rcases h.2 with ⟨rfl, h0⟩ | ⟨g, cap, cur, rfl, hg, hh, hc, hm, hs, hx⟩
  · exact ⟨none, 0, by rw [h0], fun hn => by rw [keysC_length] at hn; omega, fun b off e => by cases e⟩
  · refine ⟨some ⟨g, 0, none⟩, cap, rfl, fun _ => ⟨g, 0, rfl, fun i u hi => ?_⟩, fun b off e => by cases e; exact hg⟩
    rw [Nat.zero_add, cell_of_row w g i cur 24 (0, 0) hh]
    rw [← hx, List.getElem?_take] at hi
    split at hi
    · simpa using hi
    · cases hi
theorem Ks.set {w : World} {A : Option Addr} {l : List KeyD} (h : Ks w A l) (p : Addr) (hne : ∀ b off, A = some ⟨b, off, none⟩ → b ≠ p.block) (u : Value) : Ks (w.setCell p u) A l := fun hn => by
  obtain ⟨b, off, e, hat⟩ := h hn
  exact ⟨b, off, e, fun i v hi => (World.cell?_setCell_other w p ⟨b, off + i, none⟩ u (fun e2 => hne b off e (by first | rw [← e2] | rw [e2]))).trans (hat i v hi)⟩
theorem nil_ksv (w : World) : KsV w (.slice none 0 0) [] := ⟨none, 0, rfl, fun hn => by simp [keysC] at hn⟩
/-- what Add returns -/
def addE (l : List KeyD) (k : KeyD) : Int := if k.valid then (if (find l k.party k.serial).isSome then 6 else if l.length = 500 then 2 else 0) else 1
def addL (l : List KeyD) (k : KeyD) : List KeyD := if addE l k = 0 then put l k else []
theorem add_invalid {l : List KeyD} {k : KeyD} (h : k.valid = false) : addE l k = 1 ∧ addL l k = [] := by
  have e : addE l k = 1 := by unfold addE; rw [h]; rfl
  exact ⟨e, by unfold addL; rw [e]; rfl⟩
theorem add_twice {l : List KeyD} {k a : KeyD} (h : k.valid = true) (hf : find l k.party k.serial = some a) : addE l k = 6 ∧ addL l k = [] := by
  have e : addE l k = 6 := by unfold addE; rw [h, hf]; rfl
  exact ⟨e, by unfold addL; rw [e]; rfl⟩
theorem add_full {l : List KeyD} {k : KeyD} (h : k.valid = true) (hf : find l k.party k.serial = none) (hn : l.length = 500) : addE l k = 2 ∧ addL l k = [] := by
  have e : addE l k = 2 := by unfold addE; rw [h, hf, if_pos rfl, if_pos hn]; rfl
  exact ⟨e, by unfold addL; rw [e]; rfl⟩
theorem add_ok {l : List KeyD} {k : KeyD} (h : k.valid = true) (hf : find l k.party k.serial = none) (hn : l.length ≠ 500) : addE l k = 0 ∧ addL l k = put l k := by
  have e : addE l k = 0 := by unfold addE; rw [h, hf, if_pos rfl, if_neg hn]; rfl
  exact ⟨e, by unfold addL; rw [e]; rfl⟩
attribute [irreducible] addE addL
set_option maxRecDepth 100000 in
set_option maxHeartbeats 4000000 in
theorem radd_any (A : Option Addr) (cap : Nat) (l : List KeyD) (k : KeyD) (w : World) (hl : Ks w A l) (hn : l.length ≤ 1000000) :
    Calls Tryd.prog 17 #[.slice A l.length cap, kV k] w fun e w' => ∃ v, e = .returned (.agg #[v, .int .i64 (addE l k)]) ∧ KsV w' v (addL l k) ∧ Below w.heap.size w w' := by
  have hk5 := fun k => hide (kC_size k)
  have hks := fun k e => hide (keyedC_size k e)
  have hkl := fun a b e f => hide (keyedC_len a b e f)
  have hko := fun k e => hide (keyedC_ones k e)
  have hb := ((Below.refl w.heap.size w).alloc (Nat.le_refl _) (.cells (kC k).toArray 24)).alloc (by simp) (.cells #[.slice none 0 0, .int .i64 0] 34)
  have hX := (Blk.new w (kC k) 24).alloc (.cells #[.slice none 0 0, .int .i64 0] 34)
  have hM := blk_new1 w (.cells (kC k).toArray 24) [.slice none 0 0, .int .i64 0] 34
  have hL := Ks.below hl hb
  obtain ⟨W, hW, hX, hM, hb, hL⟩ : ∃ W, W = (w.alloc (.cells #[.int .i64 k.party, .int .i64 k.serial, .string k.secret, .int .i64 k.fr, .int .i64 k.to] 24)).alloc (.cells #[.slice none 0 0, .int .i64 0] 34) ∧ Blk W w.heap.size 24 (kC k) ∧ Blk W (w.heap.size + 1) 34 [.slice none 0 0, .int .i64 0] ∧ Below w.heap.size w W ∧ Ks W A l := ⟨_, rfl, hX, hM, hb, hL⟩
  clear hl
  unfold kV
  cases hv : k.valid with
  | false =>
    obtain ⟨e1, e2⟩ := add_invalid (l := l) hv
    rw [e1, e2]
    clear e1 e2
    go_enter Tryd.func17, Tryd.ntmps17
    go_wp2_with fail
    rw [← hW]
    clear hW
    go_wp2_with (first
      | (refine vl_load w.heap.size 24 (kC k) _ (by rfl) hX Tryd.underlying24 (by rfl) (hk5 _).out ?_; simp only [kC]; (try simp only [Act.put, List.setIfInBounds_toArray, List.set_cons_zero, List.set_cons_succ]))
      | (go_at_call 13; refine (rvalid_any k _).mono ?_; rintro e w2 ⟨rfl, hb2⟩; have M2 := hM.ext hb2; have B2 := ext_trans hb hb2; have m0 := M2.cell (i := 0) rfl; have m1 := M2.cell (i := 1) rfl; have f0 := M2.frozen 0; have f1 := M2.frozen 1))
    refine ret_blk rfl (w.heap.size + 1) _ [.slice none 0 0, .int .i64 1] _ rfl ((M2.set 0 (.slice none 0 0)).set 1 (.int .i64 1)) Tryd.underlying34 rfl (by kernel_rfl) rfl ⟨_, rfl, nil_ksv _, ?_⟩
    exact (B2.setCell (p := ⟨w.heap.size + 1, 0, none⟩) (Nat.le_succ _) _).setCell (p := ⟨w.heap.size + 1, 1, none⟩) (Nat.le_succ _) _
  | true =>
    cases hf : find l k.party k.serial with
    | some a =>
      obtain ⟨e1, e2⟩ := add_twice hv hf
      rw [e1, e2]
      have hc := fun W h => rfind_any A cap l k.party k.serial W h hn
      rw [findK_some hf, findE_some hf] at hc
      replace hc := hide hc
      clear e1 e2 hf
      go_enter Tryd.func17, Tryd.ntmps17
      go_wp2_with fail
      rw [← hW]
      clear hW
      go_wp2_with (first
        | (refine vl_load w.heap.size 24 (kC k) _ (by rfl) hX Tryd.underlying24 (by rfl) (hk5 _).out ?_; simp only [kC]; (try simp only [Act.put, List.setIfInBounds_toArray, List.set_cons_zero, List.set_cons_succ]))
        | (go_at_call 13; refine (rvalid_any k _).mono ?_; rintro e w2 ⟨rfl, hb2⟩; have M2 := hM.ext hb2; have X2 := hX.ext hb2; have L2 := Ks.below hL hb2; have B2 := ext_trans hb hb2; obtain ⟨c0, c1, _⟩ := kbox X2)
        | (go_at_call 18; refine (hc.out _ L2).mono ?_; rintro e w3 ⟨rfl, hb3⟩; have M3 := M2.ext hb3; have B3 := ext_trans B2 hb3)
        | (refine vl_store w3.heap.size 37 (keyedC a 0) (keyedC (key0 0 0) 0) (by rfl) (by rfl) (Blk.new w3 _ _) (hks _ _).out (hkl _ _ _ _).out (hko _ _).out ?_; rw [setRow_alloc]; have Y4 := Blk.new w3 (keyedC a 0) 37; have M4 := M3.alloc (.cells (keyedC a 0).toArray 37); have B4 := ext_alloc B3 (.cells (keyedC a 0).toArray 37); generalize w3.alloc (.cells (keyedC a 0).toArray 37) = w4 at *; have y5 := Y4.cell (i := 5) rfl; have m0 := M4.cell (i := 0) rfl; have m1 := M4.cell (i := 1) rfl; have f0 := M4.frozen 0; have f1 := M4.frozen 1; (try simp only [Act.put, List.setIfInBounds_toArray, List.set_cons_zero, List.set_cons_succ])))
      refine ret_blk rfl (w.heap.size + 1) _ [.slice none 0 0, .int .i64 6] _ rfl ((M4.set 0 (.slice none 0 0)).set 1 (.int .i64 6)) Tryd.underlying34 rfl (by kernel_rfl) rfl ⟨_, rfl, nil_ksv _, ?_⟩
      exact (B4.setCell (p := ⟨w.heap.size + 1, 0, none⟩) (Nat.le_succ _) _).setCell (p := ⟨w.heap.size + 1, 1, none⟩) (Nat.le_succ _) _
    | none =>
      have hc := fun W h => rfind_any A cap l k.party k.serial W h hn
      rw [findK_none hf, findE_none hf] at hc
      replace hc := hide hc
      by_cases h500 : l.length = 500
      · obtain ⟨e1, e2⟩ := add_full hv hf h500
        rw [e1, e2]
        clear e1 e2 hf
        have h5' : ((l.length : Int) == 500) = true := by simp; omega
        replace h500 := hide h500
        go_enter Tryd.func17, Tryd.ntmps17
        go_wp2_with fail
        rw [← hW]
        clear hW
        go_wp2_with (first
          | (refine vl_load w.heap.size 24 (kC k) _ (by rfl) hX Tryd.underlying24 (by rfl) (hk5 _).out ?_; simp only [kC]; (try simp only [Act.put, List.setIfInBounds_toArray, List.set_cons_zero, List.set_cons_succ]))
          | (go_at_call 13; refine (rvalid_any k _).mono ?_; rintro e w2 ⟨rfl, hb2⟩; have M2 := hM.ext hb2; have X2 := hX.ext hb2; have L2 := Ks.below hL hb2; have B2 := ext_trans hb hb2; obtain ⟨c0, c1, _⟩ := kbox X2)
          | (go_at_call 18; refine (hc.out _ L2).mono ?_; rintro e w3 ⟨rfl, hb3⟩; have M3 := M2.ext hb3; have B3 := ext_trans B2 hb3)
          | (refine vl_store w3.heap.size 37 (keyedC (key0 0 0) 5) (keyedC (key0 0 0) 0) (by rfl) (by rfl) (Blk.new w3 _ _) (hks _ _).out (hkl _ _ _ _).out (hko _ _).out ?_; rw [setRow_alloc]; have Y4 := Blk.new w3 (keyedC (key0 0 0) 5) 37; have M4 := M3.alloc (.cells (keyedC (key0 0 0) 5).toArray 37); have B4 := ext_alloc B3 (.cells (keyedC (key0 0 0) 5).toArray 37); generalize w3.alloc (.cells (keyedC (key0 0 0) 5).toArray 37) = w4 at *; have y5 := Y4.cell (i := 5) rfl; have m0 := M4.cell (i := 0) rfl; have m1 := M4.cell (i := 1) rfl; have f0 := M4.frozen 0; have f1 := M4.frozen 1; (try simp only [Act.put, List.setIfInBounds_toArray, List.set_cons_zero, List.set_cons_succ])))
        refine ret_blk rfl (w.heap.size + 1) _ [.slice none 0 0, .int .i64 2] _ rfl ((M4.set 0 (.slice none 0 0)).set 1 (.int .i64 2)) Tryd.underlying34 rfl (by kernel_rfl) rfl ⟨_, rfl, nil_ksv _, ?_⟩
        exact (B4.setCell (p := ⟨w.heap.size + 1, 0, none⟩) (Nat.le_succ _) _).setCell (p := ⟨w.heap.size + 1, 1, none⟩) (Nat.le_succ _) _
      · obtain ⟨e1, e2⟩ := add_ok hv hf h500
        rw [e1, e2]
        clear e1 e2 hf
        have h5' : ((l.length : Int) == 500) = false := by simp; omega
        have hput := fun W h => put_any A cap l k W h hn
        replace hput := hide hput
        go_enter Tryd.func17, Tryd.ntmps17
        go_wp2_with fail
        rw [← hW]
        clear hW
        go_wp2_with (first
          | (refine vl_load w.heap.size 24 (kC k) _ (by rfl) (by first | exact X4 | exact hX) Tryd.underlying24 (by rfl) (hk5 _).out ?_; simp only [kC]; (try simp only [Act.put, List.setIfInBounds_toArray, List.set_cons_zero, List.set_cons_succ]))
          | (go_at_call 13; refine (rvalid_any k _).mono ?_; rintro e w2 ⟨rfl, hb2⟩; have M2 := hM.ext hb2; have X2 := hX.ext hb2; have L2 := Ks.below hL hb2; have B2 := ext_trans hb hb2; obtain ⟨c0, c1, _⟩ := kbox X2)
          | (go_at_call 18; refine (hc.out _ L2).mono ?_; rintro e w3 ⟨rfl, hb3⟩; have M3 := M2.ext hb3; have X3 := X2.ext hb3; have L3 := Ks.below L2 hb3; have B3 := ext_trans B2 hb3)
          | (refine vl_store w3.heap.size 37 (keyedC (key0 0 0) 5) (keyedC (key0 0 0) 0) (by rfl) (by rfl) (Blk.new w3 _ _) (hks _ _).out (hkl _ _ _ _).out (hko _ _).out ?_; rw [setRow_alloc]; have Y4 := Blk.new w3 (keyedC (key0 0 0) 5) 37; have M4 := M3.alloc (.cells (keyedC (key0 0 0) 5).toArray 37); have X4 := X3.alloc (.cells (keyedC (key0 0 0) 5).toArray 37); have L4 := Rd.alloc L3 (.cells (keyedC (key0 0 0) 5).toArray 37); have B4 := ext_alloc B3 (.cells (keyedC (key0 0 0) 5).toArray 37); generalize w3.alloc (.cells (keyedC (key0 0 0) 5).toArray 37) = w4 at *; have y5 := Y4.cell (i := 5) rfl; (try simp only [Act.put, List.setIfInBounds_toArray, List.set_cons_zero, List.set_cons_succ]))
          | (go_at_call 40; refine (hput.out _ L4).mono ?_; rintro e w5 ⟨v, rfl, own5, hb5⟩; have M5 := M4.ext hb5; have B5 := ext_trans B4 hb5; obtain ⟨A5, cap5, hv5, K5, hge⟩ := own_ksv2 own5; rw [hv5]; have hge2 := hide hge; clear hge; have sz4 := M4.lt; have m0 := M5.cell (i := 0) rfl; have m1 := M5.cell (i := 1) rfl; have f0 := M5.frozen 0; have f1 := M5.frozen 1; clear own5))
        refine ret_blk rfl (w.heap.size + 1) _ [.slice A5 (put l k).length cap5, .int .i64 0] _ rfl ((M5.set 0 (.slice A5 (put l k).length cap5)).set 1 (.int .i64 0)) Tryd.underlying34 rfl (by kernel_rfl) rfl ⟨_, rfl, ⟨_, _, rfl, ?_⟩, ?_⟩
        · have hne : ∀ b off, A5 = some ⟨b, off, none⟩ → b ≠ w.heap.size + 1 := fun b off e h => by have := hge2.out b off e; omega
          exact (K5.set ⟨w.heap.size + 1, 0, none⟩ hne _).set ⟨w.heap.size + 1, 1, none⟩ hne _
        · exact (B5.setCell (p := ⟨w.heap.size + 1, 0, none⟩) (Nat.le_succ _) _).setCell (p := ⟨w.heap.size + 1, 1, none⟩) (Nat.le_succ _) _
theorem tl_inj {s t : ByteArray} (h : s.toList = t.toList) : s = t := by
  rw [Lib.toList_data, Lib.toList_data] at h
  exact ByteArray.ext (Array.toList_inj.1 h)
theorem eq_kC {a b : KeyD} : a = b ↔ (a.party = b.party ∧ a.serial = b.serial ∧ a.secret = b.secret ∧ a.fr = b.fr ∧ a.to = b.to) := by
  constructor
  · rintro rfl; exact ⟨rfl, rfl, rfl, rfl, rfl⟩
  · rintro ⟨h1, h2, h3, h4, h5⟩; cases a; cases b; simp_all
theorem key_ne_ifs {α : Type} {k r : KeyD} (h : k ≠ r) (x y : α) : (if k.party = r.party then if k.serial = r.serial then if k.secret.toList = r.secret.toList then if k.fr = r.fr then if k.to = r.to then x else y else y else y else y else y) = y := by
  split
  · split
    · split
      · split
        · split
          · rename_i h1 h2 h3 h4 h5
            exact absurd (eq_kC.2 ⟨h1, h2, tl_inj h3, h4, h5⟩) h
          · rfl
        · rfl
      · rfl
    · rfl
  · rfl
set_option maxRecDepth 100000 in
set_option maxHeartbeats 4000000 in
theorem same_any (A B : Option Addr) (cap cap' : Nat) (l m : List KeyD) (w : World) (hl : Ks w A l) (hm : Ks w B m) (hn : l.length ≤ 1000000) (hn' : m.length ≤ 1000000) :
    Calls Tryd.prog 20 #[.slice A l.length cap, .slice B m.length cap'] w fun e w' => e = .returned (.bool (decide (l = m))) ∧ Below w.heap.size w w' := by
  by_cases hlen : l.length = m.length
  · have hlen' : ((l.length : Int) != (m.length : Int)) = false := by simp; omega
    replace hlen := hide hlen
    go_enter Tryd.func20, Tryd.ntmps20
    go_wp2_with fail
    go_loopw [5] (fun a wr => ∃ i : Nat, a = .int .i64 i ∧ i ≤ l.length ∧ Hid (∀ x, x < i → l[x]? = m[x]?) ∧ Below w.heap.size w wr) (fun a _ => l.length - (intOf a).toNat)
    case atStart => exact ⟨0, rfl, Nat.zero_le _, hide (fun x hx => absurd hx (by omega)), Below.refl _ _⟩
    case round =>
      obtain ⟨i, rfl, hil, hs, hb⟩ := hrel
      have hL := hl.below hb
      have hM := hm.below hb
      by_cases hlt : i < l.length
      · have i1 : (i : Int) < (l.length : Int) := by omega
        have i2 : (0 : Int) ≤ (i : Int) := by omega
        have i3 : (i : Int) < (m.length : Int) := by have := hlen.out; omega
        have i4 : i < m.length := by have := hlen.out; omega
        obtain ⟨k, hk⟩ : ∃ k, l[i]? = some k := ⟨l[i], List.getElem?_eq_getElem hlt⟩
        obtain ⟨r, hr⟩ : ∃ r, m[i]? = some r := ⟨m[i], List.getElem?_eq_getElem i4⟩
        obtain ⟨b, off, hA, hbl, hkc⟩ := hL.get hk
        obtain ⟨b2, off2, hB, hbl2, hrc⟩ := hM.get hr
        subst hA
        subst hB
        replace hk := hide hk
        replace hr := hide hr
        by_cases hkr : k = r
        · subst hkr
          go_wp2_with fail
          refine wp_region_held_drew (S := (fun w' => (w'.cell? ⟨b, off + i * 5, none⟩ = some (.int .i64 k.party) ∧ w'.cell? ⟨b, off + i * 5 + 1, none⟩ = some (.int .i64 k.serial) ∧ w'.cell? ⟨b, off + i * 5 + 2, none⟩ = some (.string k.secret) ∧ w'.cell? ⟨b, off + i * 5 + 3, none⟩ = some (.int .i64 k.fr) ∧ w'.cell? ⟨b, off + i * 5 + 4, none⟩ = some (.int .i64 k.to)) ∧ (w'.cell? ⟨b2, off2 + i * 5, none⟩ = some (.int .i64 k.party) ∧ w'.cell? ⟨b2, off2 + i * 5 + 1, none⟩ = some (.int .i64 k.serial) ∧ w'.cell? ⟨b2, off2 + i * 5 + 2, none⟩ = some (.string k.secret) ∧ w'.cell? ⟨b2, off2 + i * 5 + 3, none⟩ = some (.int .i64 k.fr) ∧ w'.cell? ⟨b2, off2 + i * 5 + 4, none⟩ = some (.int .i64 k.to)))) (by kernel_rfl) (⟨kcell hkc, kcell hrc⟩) (fun hHeld => ?_)
          (refine wpAnyH_take (i := 0) (oi := ⟨some 17, _, _, _, _, _⟩) (v := ?_) rfl (by kernel_rfl) (by kernel_rfl) (by kernel_rfl) (fun _ _ _ h => h) (Or.inl ⟨by kernel_rfl, ?_⟩) hHeld ?_; rotate_left; (focus (intro wS hSw; (try dsimp only at hSw); go_simp; (try with_reducible rfl); done)); (try simp only [Act.put, List.setIfInBounds_toArray, List.set_cons_zero, List.set_cons_succ]); refine wpAnyH_take (i := 1) (oi := ⟨some 18, _, _, _, _, _⟩) (v := ?_) rfl (by kernel_rfl) (by kernel_rfl) (by kernel_rfl) (fun _ _ _ h => h) (Or.inl ⟨by kernel_rfl, ?_⟩) hHeld ?_; rotate_left; (focus (intro wS hSw; (try dsimp only at hSw); go_simp; (try with_reducible rfl); done)); (try simp only [Act.put, List.setIfInBounds_toArray, List.set_cons_zero, List.set_cons_succ]); refine wpAnyH_take (i := 2) (oi := ⟨some 19, _, _, _, _, _⟩) (v := ?_) rfl (by kernel_rfl) (by kernel_rfl) (by kernel_rfl) (fun _ _ _ h => h) (Or.inl ⟨by kernel_rfl, ?_⟩) hHeld ?_; rotate_left; (focus (intro wS hSw; (try dsimp only at hSw); go_simp; (try with_reducible rfl); done)); (try simp only [Act.put, List.setIfInBounds_toArray, List.set_cons_zero, List.set_cons_succ]); refine wpAnyH_take (i := 3) (oi := ⟨some 20, _, _, _, _, _⟩) (v := ?_) rfl (by kernel_rfl) (by kernel_rfl) (by kernel_rfl) (fun _ _ _ h => h) (Or.inl ⟨by kernel_rfl, ?_⟩) hHeld ?_; rotate_left; (focus (intro wS hSw; (try dsimp only at hSw); go_simp; (try with_reducible rfl); done)); (try simp only [Act.put, List.setIfInBounds_toArray, List.set_cons_zero, List.set_cons_succ]); refine wpAnyH_take (i := 4) (oi := ⟨some 21, _, _, _, _, _⟩) (v := ?_) rfl (by kernel_rfl) (by kernel_rfl) (by kernel_rfl) (fun _ _ _ h => h) (Or.inl ⟨by kernel_rfl, ?_⟩) hHeld ?_; rotate_left; (focus (intro wS hSw; (try dsimp only at hSw); go_simp; (try with_reducible rfl); done)); (try simp only [Act.put, List.setIfInBounds_toArray, List.set_cons_zero, List.set_cons_succ]); refine wpAnyH_take (i := 5) (oi := ⟨some 22, _, _, _, _, _⟩) (v := ?_) rfl (by kernel_rfl) (by kernel_rfl) (by kernel_rfl) (fun _ _ _ h => h) (Or.inl ⟨by kernel_rfl, ?_⟩) hHeld ?_; rotate_left; (focus (intro wS hSw; (try dsimp only at hSw); go_simp; (try with_reducible rfl); done)); (try simp only [Act.put, List.setIfInBounds_toArray, List.set_cons_zero, List.set_cons_succ]); refine wpAnyH_take (i := 6) (oi := ⟨some 23, _, _, _, _, _⟩) (v := ?_) rfl (by kernel_rfl) (by kernel_rfl) (by kernel_rfl) (fun _ _ _ h => h) (Or.inl ⟨by kernel_rfl, ?_⟩) hHeld ?_; rotate_left; (focus (intro wS hSw; (try dsimp only at hSw); go_simp; (try with_reducible rfl); done)); (try simp only [Act.put, List.setIfInBounds_toArray, List.set_cons_zero, List.set_cons_succ]); refine wpAnyH_take (i := 7) (oi := ⟨some 24, _, _, _, _, _⟩) (v := ?_) rfl (by kernel_rfl) (by kernel_rfl) (by kernel_rfl) (fun _ _ _ h => h) (Or.inl ⟨by kernel_rfl, ?_⟩) hHeld ?_; rotate_left; (focus (intro wS hSw; (try dsimp only at hSw); go_simp; (try with_reducible rfl); done)); (try simp only [Act.put, List.setIfInBounds_toArray, List.set_cons_zero, List.set_cons_succ]); refine wpAnyH_take (i := 8) (oi := ⟨some 25, _, _, _, _, _⟩) (v := ?_) rfl (by kernel_rfl) (by kernel_rfl) (by kernel_rfl) (fun _ _ _ h => h) (Or.inl ⟨by kernel_rfl, ?_⟩) hHeld ?_; rotate_left; (focus (intro wS hSw; (try dsimp only at hSw); go_simp; (try with_reducible rfl); done)); (try simp only [Act.put, List.setIfInBounds_toArray, List.set_cons_zero, List.set_cons_succ]))
          (refine wpAnyH_done (by kernel_rfl) ?_ _)
          go_wp2_with fail
          go_roundw
          case rel => exact ⟨i + 1, by go_num, by omega, hide (fun x hx => by
            by_cases e : x = i
            · subst e; rw [hk.out, hr.out]
            · exact hs.out x (by omega)), hb.drew⟩
          case measure => simp [intOf]; omega
        · go_wp2_with fail
          refine wp_region_held_drew (S := (fun w' => (w'.cell? ⟨b, off + i * 5, none⟩ = some (.int .i64 k.party) ∧ w'.cell? ⟨b, off + i * 5 + 1, none⟩ = some (.int .i64 k.serial) ∧ w'.cell? ⟨b, off + i * 5 + 2, none⟩ = some (.string k.secret) ∧ w'.cell? ⟨b, off + i * 5 + 3, none⟩ = some (.int .i64 k.fr) ∧ w'.cell? ⟨b, off + i * 5 + 4, none⟩ = some (.int .i64 k.to)) ∧ (w'.cell? ⟨b2, off2 + i * 5, none⟩ = some (.int .i64 r.party) ∧ w'.cell? ⟨b2, off2 + i * 5 + 1, none⟩ = some (.int .i64 r.serial) ∧ w'.cell? ⟨b2, off2 + i * 5 + 2, none⟩ = some (.string r.secret) ∧ w'.cell? ⟨b2, off2 + i * 5 + 3, none⟩ = some (.int .i64 r.fr) ∧ w'.cell? ⟨b2, off2 + i * 5 + 4, none⟩ = some (.int .i64 r.to)))) (by kernel_rfl) (⟨kcell hkc, kcell hrc⟩) (fun hHeld => ?_)
          (refine wpAnyH_take (i := 0) (oi := ⟨some 17, _, _, _, _, _⟩) (v := ?_) rfl (by kernel_rfl) (by kernel_rfl) (by kernel_rfl) (fun _ _ _ h => h) (Or.inl ⟨by kernel_rfl, ?_⟩) hHeld ?_; rotate_left; (focus (intro wS hSw; (try dsimp only at hSw); go_simp; (try with_reducible rfl); done)); (try simp only [Act.put, List.setIfInBounds_toArray, List.set_cons_zero, List.set_cons_succ]); refine wpAnyH_take (i := 1) (oi := ⟨some 18, _, _, _, _, _⟩) (v := ?_) rfl (by kernel_rfl) (by kernel_rfl) (by kernel_rfl) (fun _ _ _ h => h) (Or.inl ⟨by kernel_rfl, ?_⟩) hHeld ?_; rotate_left; (focus (intro wS hSw; (try dsimp only at hSw); go_simp; (try with_reducible rfl); done)); (try simp only [Act.put, List.setIfInBounds_toArray, List.set_cons_zero, List.set_cons_succ]); refine wpAnyH_take (i := 2) (oi := ⟨some 19, _, _, _, _, _⟩) (v := ?_) rfl (by kernel_rfl) (by kernel_rfl) (by kernel_rfl) (fun _ _ _ h => h) (Or.inl ⟨by kernel_rfl, ?_⟩) hHeld ?_; rotate_left; (focus (intro wS hSw; (try dsimp only at hSw); go_simp; (try with_reducible rfl); done)); (try simp only [Act.put, List.setIfInBounds_toArray, List.set_cons_zero, List.set_cons_succ]); refine wpAnyH_take (i := 3) (oi := ⟨some 20, _, _, _, _, _⟩) (v := ?_) rfl (by kernel_rfl) (by kernel_rfl) (by kernel_rfl) (fun _ _ _ h => h) (Or.inl ⟨by kernel_rfl, ?_⟩) hHeld ?_; rotate_left; (focus (intro wS hSw; (try dsimp only at hSw); go_simp; (try with_reducible rfl); done)); (try simp only [Act.put, List.setIfInBounds_toArray, List.set_cons_zero, List.set_cons_succ]); refine wpAnyH_take (i := 4) (oi := ⟨some 21, _, _, _, _, _⟩) (v := ?_) rfl (by kernel_rfl) (by kernel_rfl) (by kernel_rfl) (fun _ _ _ h => h) (Or.inl ⟨by kernel_rfl, ?_⟩) hHeld ?_; rotate_left; (focus (intro wS hSw; (try dsimp only at hSw); go_simp; (try with_reducible rfl); done)); (try simp only [Act.put, List.setIfInBounds_toArray, List.set_cons_zero, List.set_cons_succ]); refine wpAnyH_take (i := 5) (oi := ⟨some 22, _, _, _, _, _⟩) (v := ?_) rfl (by kernel_rfl) (by kernel_rfl) (by kernel_rfl) (fun _ _ _ h => h) (Or.inl ⟨by kernel_rfl, ?_⟩) hHeld ?_; rotate_left; (focus (intro wS hSw; (try dsimp only at hSw); go_simp; (try with_reducible rfl); done)); (try simp only [Act.put, List.setIfInBounds_toArray, List.set_cons_zero, List.set_cons_succ]); refine wpAnyH_take (i := 6) (oi := ⟨some 23, _, _, _, _, _⟩) (v := ?_) rfl (by kernel_rfl) (by kernel_rfl) (by kernel_rfl) (fun _ _ _ h => h) (Or.inl ⟨by kernel_rfl, ?_⟩) hHeld ?_; rotate_left; (focus (intro wS hSw; (try dsimp only at hSw); go_simp; (try with_reducible rfl); done)); (try simp only [Act.put, List.setIfInBounds_toArray, List.set_cons_zero, List.set_cons_succ]); refine wpAnyH_take (i := 7) (oi := ⟨some 24, _, _, _, _, _⟩) (v := ?_) rfl (by kernel_rfl) (by kernel_rfl) (by kernel_rfl) (fun _ _ _ h => h) (Or.inl ⟨by kernel_rfl, ?_⟩) hHeld ?_; rotate_left; (focus (intro wS hSw; (try dsimp only at hSw); go_simp; (try with_reducible rfl); done)); (try simp only [Act.put, List.setIfInBounds_toArray, List.set_cons_zero, List.set_cons_succ]))
          refine wpAnyH_take (i := 8) (oi := ⟨some 25, _, _, _, _, _⟩) (v := .bool true) rfl (by kernel_rfl) (by kernel_rfl) (by kernel_rfl) (fun _ _ _ h => h) (Or.inl ⟨by kernel_rfl, ?_⟩) hHeld ?_
          · intro wS hSw
            go_simp
            exact fun h1 h2 h3 h4 h5 => hkr (eq_kC.2 ⟨h1, h2, tl_inj h3, h4, h5⟩)
          (try simp only [Act.put, List.setIfInBounds_toArray, List.set_cons_zero, List.set_cons_succ])
          (refine wpAnyH_done (by kernel_rfl) ?_ _)
          go_wp2_with fail
          go_ret
          exact ⟨retb (by
            constructor
            · intro h; cases h
            · intro h
              have e := of_decide_eq_true h
              subst e
              have e2 := hk.out; rw [hr.out] at e2; exact absurd (Option.some.inj e2).symm hkr), hb.drew⟩
      · obtain rfl : i = l.length := by omega
        have e : decide (l = m) = true := by
          rw [decide_eq_true_iff]
          apply List.ext_getElem?
          intro x
          by_cases hx : x < l.length
          · exact hs.out x hx
          · rw [List.getElem?_eq_none (by omega), List.getElem?_eq_none (by have := hlen.out; omega)]
        replace e := hide e
        go_wp2_with fail
        go_ret
        exact ⟨by rw [e.out]; rfl, hb⟩
  · have hlen' : ((l.length : Int) != (m.length : Int)) = true := by simp; omega
    have e : decide (l = m) = false := by rw [decide_eq_false_iff_not]; rintro rfl; exact hlen rfl
    rw [e]
    go_enter Tryd.func20, Tryd.ntmps20
    go_wp2_with fail
    go_ret
    exact ⟨rfl, Below.refl _ _⟩
end Go.Proofs.YtbccfgeepdmegaaDoor
