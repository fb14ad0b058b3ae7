/- Walks: the reference's Rotate and Revoke. -/
import Derived.Test.YtbccfgeepdmegaaDoorRefC
import Derived.Test.YtbccfgeepdmegaaDoorSealL
set_option linter.unusedVariables false
set_option linter.unusedSimpArgs false
set_option linter.unnecessarySimpa false
namespace Go.Proofs.YtbccfgeepdmegaaDoor
open Go Go.RowKit Mem
attribute [local go_sem ↓] Go.wp_at_zero Go.wp_at_succ veil_lk veil_sk veil_ld37 veil_st37
set_option maxRecDepth 100000 in
set_option maxHeartbeats 16000000 in
theorem rrotate_any (A : Option Addr) (cap : Nat) (l : List KeyD) (p : Int) (secret : ByteArray) (d : Int) (w : World) (hl : Ks w A l) (hr : ring l = true) (hn : l.length ≤ 1000000) (hsec : secret.size ≤ 9223372036854775807) (hd : -9223372036854775808 ≤ d ∧ d < 9223372036854775808) :
    Calls Tryd.prog 31 #[.slice A l.length cap, .int .i64 p, .string secret, .int .i64 d] w fun e w' => ∃ v, e = .returned (.agg #[v, .int .i64 (rotE l p secret d)]) ∧ KsV w' v (rotL l p secret d) ∧ Below w.heap.size w w' := by
  have hk5 := fun k => hide (kC_size k)
  have hkl := fun a b => hide (kC_len a b)
  have hko := fun k => hide (kC_ones k)
  have hks := fun k e => hide (keyedC_size k e)
  have hkl6 := fun a b e f => hide (keyedC_len a b e f)
  have hko6 := fun k e => hide (keyedC_ones k e)
  have hb := (Below.refl w.heap.size w).alloc (Nat.le_refl _) (.cells #[.slice none 0 0, .int .i64 0] 34)
  have hM := Blk.new w [.slice none 0 0, .int .i64 0] 34
  have hL := Ks.below hl hb
  obtain ⟨W, hW, hM, hb, hL⟩ : ∃ W, W = w.alloc (.cells #[.slice none 0 0, .int .i64 0] 34) ∧ Blk W w.heap.size 34 [.slice none 0 0, .int .i64 0] ∧ Below w.heap.size w W ∧ Ks W A l := ⟨_, rfl, hM, hb, hL⟩
  have hl0 := hide hl
  clear hl
  cases hlast : lastD l p with
  | none =>
    obtain ⟨e1, e2⟩ := rot_none hlast secret d
    rw [e1, e2]
    have hc := fun W h => rlast_any A cap l p W h hn
    rw [hlast, lastK_none, lastE_none] at hc
    replace hc := hide hc
    clear e1 e2 hlast
    go_enter Tryd.func31, Tryd.ntmps31
    go_wp2_with fail
    rw [← hW]
    clear hW
    refine (hc.out _ hL).mono ?_
    rintro e w2 ⟨rfl, hb2⟩
    have M2 := hM.ext hb2
    have L2 := Ks.below hL hb2
    have B2 := ext_trans hb hb2
    clear hM hb hL hb2
    go_wp2_with fail
    refine vl_store w2.heap.size 37 (keyedC (key0 0 0) 5) (keyedC (key0 0 0) 0) (by rfl) (by rfl) (Blk.new w2 _ _) (hks _ _).out (hkl6 _ _ _ _).out (hko6 _ _).out ?_
    rw [setRow_alloc]
    have Y3 := Blk.new w2 (keyedC (key0 0 0) 5) 37
    have M3 := M2.alloc (.cells (keyedC (key0 0 0) 5).toArray 37)
    have L3 := Rd.alloc L2 (.cells (keyedC (key0 0 0) 5).toArray 37)
    have B3 := ext_alloc B2 (.cells (keyedC (key0 0 0) 5).toArray 37)
    generalize w2.alloc (.cells (keyedC (key0 0 0) 5).toArray 37) = w3 at *
    clear M2 L2 B2
    have y5 := Y3.cell (i := 5) rfl
    have y1 := Y3.cell (i := 1) rfl
    have y3 := Y3.cell (i := 3) rfl
    have m0 := M3.cell (i := 0) rfl
    have m1 := M3.cell (i := 1) rfl
    have f0 := M3.frozen 0
    have f1 := M3.frozen 1
    (try simp only [Act.put, List.setIfInBounds_toArray, List.set_cons_zero, List.set_cons_succ])
    go_wp2_with fail
    refine ret_blk rfl w.heap.size _ [.slice none 0 0, .int .i64 5] _ rfl ((M3.set 0 (.slice none 0 0)).set 1 (.int .i64 5)) Tryd.underlying34 rfl (by kernel_rfl) rfl ⟨_, rfl, nil_ksv _, ?_⟩
    exact (B3.setCell (p := ⟨w.heap.size, 0, none⟩) (Nat.le_refl _) _).setCell (p := ⟨w.heap.size, 1, none⟩) (Nat.le_refl _) _
  | some la =>
    have hc := fun W h => rlast_any A cap l p W h hn
    rw [hlast, lastK_some, lastE_some] at hc
    replace hc := hide hc
    obtain ⟨hmem, hpa, _⟩ := last_top (ring_sorted hr) hlast
    have hlav : la.valid = true := ring_valid hr (List.mem_iff_getElem?.1 hmem).choose_spec
    have hsb : 1 ≤ la.serial ∧ la.serial ≤ 2147483648 := by rw [KeyD.valid_iff] at hlav; omega
    obtain ⟨hs1, hs2⟩ := hsb
    clear hlav
    cases hv : (nextK la p secret d).valid with
    | false =>
      obtain ⟨e1, e2⟩ := rot_invalid hlast hv
      rw [e1, e2]
      clear e1 e2
      replace hlast := hide hlast
      replace hpa := hide hpa
      replace hmem := hide hmem
      go_enter Tryd.func31, Tryd.ntmps31
      go_wp2_with fail
      rw [← hW]
      clear hW
      refine (hc.out _ hL).mono ?_
      rintro e w2 ⟨rfl, hb2⟩
      have M2 := hM.ext hb2
      have L2 := Ks.below hL hb2
      have B2 := ext_trans hb hb2
      clear hM hb hL hb2
      go_wp2_with fail
      refine vl_store w2.heap.size 37 (keyedC la 0) (keyedC (key0 0 0) 0) (by rfl) (by rfl) (Blk.new w2 _ _) (hks _ _).out (hkl6 _ _ _ _).out (hko6 _ _).out ?_
      rw [setRow_alloc]
      have Y3 := Blk.new w2 (keyedC la 0) 37
      have M3 := M2.alloc (.cells (keyedC la 0).toArray 37)
      have L3 := Rd.alloc L2 (.cells (keyedC la 0).toArray 37)
      have B3 := ext_alloc B2 (.cells (keyedC la 0).toArray 37)
      generalize w2.alloc (.cells (keyedC la 0).toArray 37) = w3 at *
      clear M2 L2 B2
      have y5 := Y3.cell (i := 5) rfl
      have y1 := Y3.cell (i := 1) rfl
      have y3 := Y3.cell (i := 3) rfl
      have m0 := M3.cell (i := 0) rfl
      have m1 := M3.cell (i := 1) rfl
      have f0 := M3.frozen 0
      have f1 := M3.frozen 1
      (try simp only [Act.put, List.setIfInBounds_toArray, List.set_cons_zero, List.set_cons_succ])
      go_wp2_with fail
      have s13 : w.heap.size < w3.heap.size := M3.lt
      refine vl_store w3.heap.size 24 (kC (nextK la p secret d)) (kC (key0 0 0)) (by rfl) (by rfl) (Blk.new w3 _ _) (hk5 _).out (hkl _ _).out (hko _).out ?_
      rw [setRow_alloc]
      have X4 := Blk.new w3 (kC (nextK la p secret d)) 24
      have Y4 := Y3.alloc (.cells (kC (nextK la p secret d)).toArray 24)
      have M4 := M3.alloc (.cells (kC (nextK la p secret d)).toArray 24)
      have L4 := Rd.alloc L3 (.cells (kC (nextK la p secret d)).toArray 24)
      have B4 := ext_alloc B3 (.cells (kC (nextK la p secret d)).toArray 24)
      generalize w3.alloc (.cells (kC (nextK la p secret d)).toArray 24) = w4 at *
      clear Y3 M3 L3 B3 y5 y1 y3 m0 m1 f0 f1
      (try simp only [Act.put, List.setIfInBounds_toArray, List.set_cons_zero, List.set_cons_succ])
      go_wp2_with fail
      refine vl_load w3.heap.size 24 (kC (nextK la p secret d)) _ (by rfl) X4 Tryd.underlying24 (by rfl) (hk5 _).out ?_
      simp only [kC_next]
      (try simp only [Act.put, List.setIfInBounds_toArray, List.set_cons_zero, List.set_cons_succ])
      go_wp2_with fail
      refine (rvalid_any (nextK la p secret d) _).mono ?_
      rw [hv]
      rintro e w5 ⟨rfl, hb5⟩
      have X5 := X4.ext hb5
      have Y5 := Y4.ext hb5
      have M5 := M4.ext hb5
      have L5 := Ks.below L4 hb5
      have B5 := ext_trans B4 hb5
      clear X4 Y4 M4 L4 B4 hb5
      have y3 := Y5.cell (i := 3) rfl
      have m0 := M5.cell (i := 0) rfl
      have m1 := M5.cell (i := 1) rfl
      have f0 := M5.frozen 0
      have f1 := M5.frozen 1
      go_wp2_with fail
      refine ret_blk rfl w.heap.size _ [.slice none 0 0, .int .i64 1] _ rfl ((M5.set 0 (.slice none 0 0)).set 1 (.int .i64 1)) Tryd.underlying34 rfl (by kernel_rfl) rfl ⟨_, rfl, nil_ksv _, ?_⟩
      exact (B5.setCell (p := ⟨w.heap.size, 0, none⟩) (Nat.le_refl _) _).setCell (p := ⟨w.heap.size, 1, none⟩) (Nat.le_refl _) _
    | true =>
      by_cases hdf : d ≤ la.fr
      · obtain ⟨e1, e2⟩ := rot_time hlast hv hdf
        rw [e1, e2]
        clear e1 e2
        replace hlast := hide hlast
        replace hpa := hide hpa
        replace hmem := hide hmem
        go_enter Tryd.func31, Tryd.ntmps31
        go_wp2_with fail
        rw [← hW]
        clear hW
        refine (hc.out _ hL).mono ?_
        rintro e w2 ⟨rfl, hb2⟩
        have M2 := hM.ext hb2
        have L2 := Ks.below hL hb2
        have B2 := ext_trans hb hb2
        clear hM hb hL hb2
        go_wp2_with fail
        refine vl_store w2.heap.size 37 (keyedC la 0) (keyedC (key0 0 0) 0) (by rfl) (by rfl) (Blk.new w2 _ _) (hks _ _).out (hkl6 _ _ _ _).out (hko6 _ _).out ?_
        rw [setRow_alloc]
        have Y3 := Blk.new w2 (keyedC la 0) 37
        have M3 := M2.alloc (.cells (keyedC la 0).toArray 37)
        have L3 := Rd.alloc L2 (.cells (keyedC la 0).toArray 37)
        have B3 := ext_alloc B2 (.cells (keyedC la 0).toArray 37)
        generalize w2.alloc (.cells (keyedC la 0).toArray 37) = w3 at *
        clear M2 L2 B2
        have y5 := Y3.cell (i := 5) rfl
        have y1 := Y3.cell (i := 1) rfl
        have y3 := Y3.cell (i := 3) rfl
        have m0 := M3.cell (i := 0) rfl
        have m1 := M3.cell (i := 1) rfl
        have f0 := M3.frozen 0
        have f1 := M3.frozen 1
        (try simp only [Act.put, List.setIfInBounds_toArray, List.set_cons_zero, List.set_cons_succ])
        go_wp2_with fail
        have s13 : w.heap.size < w3.heap.size := M3.lt
        refine vl_store w3.heap.size 24 (kC (nextK la p secret d)) (kC (key0 0 0)) (by rfl) (by rfl) (Blk.new w3 _ _) (hk5 _).out (hkl _ _).out (hko _).out ?_
        rw [setRow_alloc]
        have X4 := Blk.new w3 (kC (nextK la p secret d)) 24
        have Y4 := Y3.alloc (.cells (kC (nextK la p secret d)).toArray 24)
        have M4 := M3.alloc (.cells (kC (nextK la p secret d)).toArray 24)
        have L4 := Rd.alloc L3 (.cells (kC (nextK la p secret d)).toArray 24)
        have B4 := ext_alloc B3 (.cells (kC (nextK la p secret d)).toArray 24)
        generalize w3.alloc (.cells (kC (nextK la p secret d)).toArray 24) = w4 at *
        clear Y3 M3 L3 B3 y5 y1 y3 m0 m1 f0 f1
        (try simp only [Act.put, List.setIfInBounds_toArray, List.set_cons_zero, List.set_cons_succ])
        go_wp2_with fail
        refine vl_load w3.heap.size 24 (kC (nextK la p secret d)) _ (by rfl) X4 Tryd.underlying24 (by rfl) (hk5 _).out ?_
        simp only [kC_next]
        (try simp only [Act.put, List.setIfInBounds_toArray, List.set_cons_zero, List.set_cons_succ])
        go_wp2_with fail
        refine (rvalid_any (nextK la p secret d) _).mono ?_
        rw [hv]
        rintro e w5 ⟨rfl, hb5⟩
        have X5 := X4.ext hb5
        have Y5 := Y4.ext hb5
        have M5 := M4.ext hb5
        have L5 := Ks.below L4 hb5
        have B5 := ext_trans B4 hb5
        clear X4 Y4 M4 L4 B4 hb5
        have y3 := Y5.cell (i := 3) rfl
        have m0 := M5.cell (i := 0) rfl
        have m1 := M5.cell (i := 1) rfl
        have f0 := M5.frozen 0
        have f1 := M5.frozen 1
        go_wp2_with fail
        refine ret_blk rfl w.heap.size _ [.slice none 0 0, .int .i64 9] _ rfl ((M5.set 0 (.slice none 0 0)).set 1 (.int .i64 9)) Tryd.underlying34 rfl (by kernel_rfl) rfl ⟨_, rfl, nil_ksv _, ?_⟩
        exact (B5.setCell (p := ⟨w.heap.size, 0, none⟩) (Nat.le_refl _) _).setCell (p := ⟨w.heap.size, 1, none⟩) (Nat.le_refl _) _
      · obtain ⟨e1, e2⟩ := rot_ok hlast hv hdf
        rw [e1, e2]
        clear e1 e2
        by_cases h5 : l.length = 500
        · rw [if_pos h5, if_pos h5]
          have h5' : ((l.length : Int) == 500) = true := by simp; omega
          replace hlast := hide hlast
          replace hpa := hide hpa
          replace hmem := hide hmem
          replace h5 := hide h5
          go_enter Tryd.func31, Tryd.ntmps31
          go_wp2_with fail
          rw [← hW]
          clear hW
          refine (hc.out _ hL).mono ?_
          rintro e w2 ⟨rfl, hb2⟩
          have M2 := hM.ext hb2
          have L2 := Ks.below hL hb2
          have B2 := ext_trans hb hb2
          clear hM hb hL hb2
          go_wp2_with fail
          refine vl_store w2.heap.size 37 (keyedC la 0) (keyedC (key0 0 0) 0) (by rfl) (by rfl) (Blk.new w2 _ _) (hks _ _).out (hkl6 _ _ _ _).out (hko6 _ _).out ?_
          rw [setRow_alloc]
          have Y3 := Blk.new w2 (keyedC la 0) 37
          have M3 := M2.alloc (.cells (keyedC la 0).toArray 37)
          have L3 := Rd.alloc L2 (.cells (keyedC la 0).toArray 37)
          have B3 := ext_alloc B2 (.cells (keyedC la 0).toArray 37)
          generalize w2.alloc (.cells (keyedC la 0).toArray 37) = w3 at *
          clear M2 L2 B2
          have y5 := Y3.cell (i := 5) rfl
          have y1 := Y3.cell (i := 1) rfl
          have y3 := Y3.cell (i := 3) rfl
          have m0 := M3.cell (i := 0) rfl
          have m1 := M3.cell (i := 1) rfl
          have f0 := M3.frozen 0
          have f1 := M3.frozen 1
          (try simp only [Act.put, List.setIfInBounds_toArray, List.set_cons_zero, List.set_cons_succ])
          go_wp2_with fail
          have s13 : w.heap.size < w3.heap.size := M3.lt
          refine vl_store w3.heap.size 24 (kC (nextK la p secret d)) (kC (key0 0 0)) (by rfl) (by rfl) (Blk.new w3 _ _) (hk5 _).out (hkl _ _).out (hko _).out ?_
          rw [setRow_alloc]
          have X4 := Blk.new w3 (kC (nextK la p secret d)) 24
          have Y4 := Y3.alloc (.cells (kC (nextK la p secret d)).toArray 24)
          have M4 := M3.alloc (.cells (kC (nextK la p secret d)).toArray 24)
          have L4 := Rd.alloc L3 (.cells (kC (nextK la p secret d)).toArray 24)
          have B4 := ext_alloc B3 (.cells (kC (nextK la p secret d)).toArray 24)
          generalize w3.alloc (.cells (kC (nextK la p secret d)).toArray 24) = w4 at *
          clear Y3 M3 L3 B3 y5 y1 y3 m0 m1 f0 f1
          (try simp only [Act.put, List.setIfInBounds_toArray, List.set_cons_zero, List.set_cons_succ])
          go_wp2_with fail
          refine vl_load w3.heap.size 24 (kC (nextK la p secret d)) _ (by rfl) X4 Tryd.underlying24 (by rfl) (hk5 _).out ?_
          simp only [kC_next]
          (try simp only [Act.put, List.setIfInBounds_toArray, List.set_cons_zero, List.set_cons_succ])
          go_wp2_with fail
          refine (rvalid_any (nextK la p secret d) _).mono ?_
          rw [hv]
          rintro e w5 ⟨rfl, hb5⟩
          have X5 := X4.ext hb5
          have Y5 := Y4.ext hb5
          have M5 := M4.ext hb5
          have L5 := Ks.below L4 hb5
          have B5 := ext_trans B4 hb5
          clear X4 Y4 M4 L4 B4 hb5
          have y3 := Y5.cell (i := 3) rfl
          have m0 := M5.cell (i := 0) rfl
          have m1 := M5.cell (i := 1) rfl
          have f0 := M5.frozen 0
          have f1 := M5.frozen 1
          go_wp2_with fail
          refine ret_blk rfl w.heap.size _ [.slice none 0 0, .int .i64 2] _ rfl ((M5.set 0 (.slice none 0 0)).set 1 (.int .i64 2)) Tryd.underlying34 rfl (by kernel_rfl) rfl ⟨_, rfl, nil_ksv _, ?_⟩
          exact (B5.setCell (p := ⟨w.heap.size, 0, none⟩) (Nat.le_refl _) _).setCell (p := ⟨w.heap.size, 1, none⟩) (Nat.le_refl _) _
        · rw [if_neg h5, if_neg h5]
          have h5' : ((l.length : Int) == 500) = false := by simp; omega
          obtain ⟨hmi, hme⟩ := List.mem_iff_getElem?.1 hmem
          have hp2 : (put l (capped la d)).length ≤ 1000000 := by rw [put_capped (ring_sorted hr) hme, List.length_set]; exact hn
          have hput := fun W h => put_any A cap l (capped la d) W h hn
          have hput2 := fun A' cap' W h => put_any A' cap' (put l (capped la d)) (nextK la p secret d) W h hp2
          obtain ⟨l2, hl2⟩ : ∃ l2, l2 = put l (capped la d) := ⟨_, rfl⟩
          rw [← hl2] at hput hput2 ⊢
          replace hput := hide hput
          replace hput2 := hide hput2
          replace hl2 := hide hl2
          replace hlast := hide hlast
          replace hpa := hide hpa
          replace hmem := hide hmem
          replace hme := hide hme
          clear hp2
          go_enter Tryd.func31, Tryd.ntmps31
          go_wp2_with fail
          rw [← hW]
          clear hW
          refine (hc.out _ hL).mono ?_
          rintro e w2 ⟨rfl, hb2⟩
          have M2 := hM.ext hb2
          have L2 := Ks.below hL hb2
          have B2 := ext_trans hb hb2
          clear hM hb hL hb2
          go_wp2_with fail
          refine vl_store w2.heap.size 37 (keyedC la 0) (keyedC (key0 0 0) 0) (by rfl) (by rfl) (Blk.new w2 _ _) (hks _ _).out (hkl6 _ _ _ _).out (hko6 _ _).out ?_
          rw [setRow_alloc]
          have Y3 := Blk.new w2 (keyedC la 0) 37
          have M3 := M2.alloc (.cells (keyedC la 0).toArray 37)
          have L3 := Rd.alloc L2 (.cells (keyedC la 0).toArray 37)
          have B3 := ext_alloc B2 (.cells (keyedC la 0).toArray 37)
          generalize w2.alloc (.cells (keyedC la 0).toArray 37) = w3 at *
          clear M2 L2 B2
          have y5 := Y3.cell (i := 5) rfl
          have y1 := Y3.cell (i := 1) rfl
          have y3 := Y3.cell (i := 3) rfl
          have m0 := M3.cell (i := 0) rfl
          have m1 := M3.cell (i := 1) rfl
          have f0 := M3.frozen 0
          have f1 := M3.frozen 1
          (try simp only [Act.put, List.setIfInBounds_toArray, List.set_cons_zero, List.set_cons_succ])
          go_wp2_with fail
          have s13 : w.heap.size < w3.heap.size := M3.lt
          refine vl_store w3.heap.size 24 (kC (nextK la p secret d)) (kC (key0 0 0)) (by rfl) (by rfl) (Blk.new w3 _ _) (hk5 _).out (hkl _ _).out (hko _).out ?_
          rw [setRow_alloc]
          have X4 := Blk.new w3 (kC (nextK la p secret d)) 24
          have Y4 := Y3.alloc (.cells (kC (nextK la p secret d)).toArray 24)
          have M4 := M3.alloc (.cells (kC (nextK la p secret d)).toArray 24)
          have L4 := Rd.alloc L3 (.cells (kC (nextK la p secret d)).toArray 24)
          have B4 := ext_alloc B3 (.cells (kC (nextK la p secret d)).toArray 24)
          generalize w3.alloc (.cells (kC (nextK la p secret d)).toArray 24) = w4 at *
          clear Y3 M3 L3 B3 y5 y1 y3 m0 m1 f0 f1
          (try simp only [Act.put, List.setIfInBounds_toArray, List.set_cons_zero, List.set_cons_succ])
          go_wp2_with fail
          refine vl_load w3.heap.size 24 (kC (nextK la p secret d)) _ (by rfl) X4 Tryd.underlying24 (by rfl) (hk5 _).out ?_
          simp only [kC_next]
          (try simp only [Act.put, List.setIfInBounds_toArray, List.set_cons_zero, List.set_cons_succ])
          go_wp2_with fail
          refine (rvalid_any (nextK la p secret d) _).mono ?_
          rw [hv]
          rintro e w5 ⟨rfl, hb5⟩
          have X5 := X4.ext hb5
          have Y5 := Y4.ext hb5
          have M5 := M4.ext hb5
          have L5 := Ks.below L4 hb5
          have B5 := ext_trans B4 hb5
          clear X4 Y4 M4 L4 B4 hb5
          have y3 := Y5.cell (i := 3) rfl
          have m0 := M5.cell (i := 0) rfl
          have m1 := M5.cell (i := 1) rfl
          have f0 := M5.frozen 0
          have f1 := M5.frozen 1
          go_wp2_with fail
          refine vl_load_at w2.heap.size 0 (kC la) _ (by rfl) (Y5.take 5) Tryd.underlying24 (by rfl) (hk5 _).out ?_
          simp only [kC]
          (try simp only [Act.put, List.setIfInBounds_toArray, List.set_cons_zero, List.set_cons_succ])
          go_wp2_with fail
          refine vl_store w5.heap.size 24 (kC la) (kC (key0 0 0)) (by rfl) (by rfl) (Blk.new w5 _ _) (hk5 _).out (hkl _ _).out (hko _).out ?_
          rw [setRow_alloc]
          have Z6 := Blk.new w5 (kC la) 24
          have X6 := X5.alloc (.cells (kC la).toArray 24)
          have M6 := M5.alloc (.cells (kC la).toArray 24)
          have L6 := Rd.alloc L5 (.cells (kC la).toArray 24)
          have B6 := ext_alloc B5 (.cells (kC la).toArray 24)
          have s5 : w.heap.size < w5.heap.size := M5.lt
          have s3 : w3.heap.size < w5.heap.size := X5.lt
          generalize w5.alloc (.cells (kC la).toArray 24) = w6 at *
          clear X5 Y5 M5 L5 B5 y3 m0 m1 f0 f1
          have z4 := Z6.cell (i := 4) rfl
          have g4 := Z6.frozen 4
          (try simp only [Act.put, List.setIfInBounds_toArray, List.set_cons_zero, List.set_cons_succ])
          go_wp2_with fail
          all_goals (
            first
              | (have em : min la.to d = d := (by omega); rw [show w6.setCell ⟨w5.heap.size, 4, none⟩ (.int .i64 d) = w6.setCell ⟨w5.heap.size, 4, none⟩ (.int .i64 (min la.to d)) by rw [em]])
              | (have em : min la.to d = la.to := (by omega); rw [show w6.setCell ⟨w5.heap.size, 4, none⟩ (.int .i64 la.to) = w6.setCell ⟨w5.heap.size, 4, none⟩ (.int .i64 (min la.to d)) by rw [em]])
            generalize hw7 : w6.setCell ⟨w5.heap.size, 4, none⟩ (.int .i64 (min la.to d)) = w7
            have Z7 := Z6.set 4 (.int .i64 (min la.to d))
            have X7 := X6.set_ne (b' := w5.heap.size) (by omega) 4 (.int .i64 (min la.to d))
            have M7 := M6.set_ne (b' := w5.heap.size) (by omega) 4 (.int .i64 (min la.to d))
            have B7 := B6.setCell (p := ⟨w5.heap.size, 4, none⟩) (by simp only; omega) (.int .i64 (min la.to d))
            rw [hw7] at Z7 X7 M7 B7
            clear hw7
            have L7 := Ks.below hl0.out B7
            replace Z7 : Blk w7 w5.heap.size 24 (kC (capped la d)) := Z7
            obtain ⟨ca, hca⟩ : ∃ ca, ca = capped la d := ⟨_, rfl⟩
            obtain ⟨nk, hnk⟩ : ∃ nk, nk = nextK la p secret d := ⟨_, rfl⟩
            rw [← hca] at Z7 hput
            rw [← hnk] at X7 hput2
            replace hnk := hide hnk
            replace hca := hide hca
            replace hv := hide hv
            clear Z6 X6 M6 L6 B6 z4 g4
            refine wp_region_held_drew (S := (fun w' => (w'.cell? ⟨w5.heap.size, 0, none⟩ = some (.int .i64 ca.party) ∧ w'.cell? ⟨w5.heap.size, 1, none⟩ = some (.int .i64 ca.serial) ∧ w'.cell? ⟨w5.heap.size, 2, none⟩ = some (.string ca.secret) ∧ w'.cell? ⟨w5.heap.size, 3, none⟩ = some (.int .i64 ca.fr) ∧ w'.cell? ⟨w5.heap.size, 4, none⟩ = some (.int .i64 ca.to)) ∧ (w'.cell? ⟨w3.heap.size, 0, none⟩ = some (.int .i64 nk.party) ∧ w'.cell? ⟨w3.heap.size, 1, none⟩ = some (.int .i64 nk.serial) ∧ w'.cell? ⟨w3.heap.size, 2, none⟩ = some (.string nk.secret) ∧ w'.cell? ⟨w3.heap.size, 3, none⟩ = some (.int .i64 nk.fr) ∧ w'.cell? ⟨w3.heap.size, 4, none⟩ = some (.int .i64 nk.to)))) (by kernel_rfl) (⟨kbox Z7, kbox X7⟩) (fun hHeld => ?_)
            (refine wpAnyH_take (i := 0) (oi := ⟨some 52, _, _, _, _, _⟩) (v := ?_) rfl (by kernel_rfl) (by kernel_rfl) (by kernel_rfl) (fun _ _ _ h => h) (Or.inl ⟨by kernel_rfl, ?_⟩) hHeld ?_; rotate_left; (focus (intro wS hSw; (try dsimp only at hSw); go_simp; (try with_reducible rfl); done)); (try simp only [Act.put, List.setIfInBounds_toArray, List.set_cons_zero, List.set_cons_succ]); refine wpAnyH_take (i := 1) (oi := ⟨some 53, _, _, _, _, _⟩) (v := ?_) rfl (by kernel_rfl) (by kernel_rfl) (by kernel_rfl) (fun _ _ _ h => h) (Or.inl ⟨by kernel_rfl, ?_⟩) hHeld ?_; rotate_left; (focus (intro wS hSw; (try dsimp only at hSw); go_simp; (try with_reducible rfl); done)); (try simp only [Act.put, List.setIfInBounds_toArray, List.set_cons_zero, List.set_cons_succ]); refine wpAnyH_take (i := 3) (oi := ⟨some 55, _, _, _, _, _⟩) (v := ?_) rfl (by kernel_rfl) (by kernel_rfl) (by kernel_rfl) (fun _ _ _ h => h) (Or.inl ⟨by kernel_rfl, ?_⟩) hHeld ?_; rotate_left; (focus (intro wS hSw; (try dsimp only at hSw); go_simp; (try with_reducible rfl); done)); (try simp only [Act.put, List.setIfInBounds_toArray, List.set_cons_zero, List.set_cons_succ]))
            (refine wpAnyH_ready (rs := [2]) (by kernel_rfl) (by simp) ?_; refine AllReadyH.cons (o := ⟨some 54, _, _, _, _, _⟩) rfl (fun K hK => ?_) AllReadyH.nil; go_simp)
            refine (hput.out _ (Rd.drew L7)).mono ?_
            rintro e w8 ⟨v8, rfl, own8, hb8⟩
            obtain ⟨A8, cap8, hv8, K8, hge8⟩ := own_ksv2 own8
            rw [hv8]
            have Z8 := Z7.drew.ext hb8
            have X8 := X7.drew.ext hb8
            have M8 := M7.drew.ext hb8
            have B8 := ext_trans (ext_drew B7) hb8
            clear own8 hge8 Z7 X7 M7 B7 L7 hb8 hv8
            (refine hK.out _ _ (⟨kbox Z8, kbox X8⟩) (fun hHeld => ?_); clear hK K; (try simp only [Act.put, List.setIfInBounds_toArray, List.set_cons_zero, List.set_cons_succ]))
            (refine wpAnyH_ready (rs := [4]) (by kernel_rfl) (by simp) ?_; refine AllReadyH.cons (o := ⟨some 56, _, _, _, _, _⟩) rfl (fun K hK => ?_) AllReadyH.nil; go_simp)
            refine (hput2.out A8 cap8 _ K8).mono ?_
            rintro e w9 ⟨v9, rfl, own9, hb9⟩
            obtain ⟨A9, cap9, hv9, K9, hge9⟩ := own_ksv2 own9
            rw [hv9]
            have Z9 := Z8.ext hb9
            have X9 := X8.ext hb9
            have M9 := M8.ext hb9
            have s8 : w.heap.size < w8.heap.size := M8.lt
            have B9 := ext_trans B8 hb9
            replace hge9 := hide hge9
            clear own9 Z8 X8 M8 B8 K8 hb9 hv9
            (refine hK.out _ _ (⟨kbox Z9, kbox X9⟩) (fun hHeld => ?_); clear hK K; (try simp only [Act.put, List.setIfInBounds_toArray, List.set_cons_zero, List.set_cons_succ]))
            have m0 := M9.cell (i := 0) rfl
            have m1 := M9.cell (i := 1) rfl
            have f0 := M9.frozen 0
            have f1 := M9.frozen 1
            (refine wpAnyH_take (i := 5) (oi := ⟨some 57, _, _, _, _, _⟩) (v := ?_) rfl (by kernel_rfl) (by kernel_rfl) (by kernel_rfl) (fun _ _ _ h => h) (Or.inl ⟨by kernel_rfl, ?_⟩) hHeld ?_; rotate_left; (focus (intro wS hSw; (try dsimp only at hSw); go_simp; (try with_reducible rfl); done)); (try simp only [Act.put, List.setIfInBounds_toArray, List.set_cons_zero, List.set_cons_succ]))
            (refine wpAnyH_ready (rs := [6]) (by kernel_rfl) (by simp) ?_; refine AllReadyH.cons (o := ⟨none, _, _, _, _, _⟩) rfl (fun K hK => ?_) AllReadyH.nil; go_simp)
            (refine hK.out _ _ (⟨kbox ((Z9.set_ne (by omega) _ _).set_ne (by omega) _ _), kbox ((X9.set_ne (by omega) _ _).set_ne (by omega) _ _)⟩) (fun hHeld => ?_); clear hK K; (try simp only [Act.put, List.setIfInBounds_toArray, List.set_cons_zero, List.set_cons_succ]))
            (refine wpAnyH_done (by kernel_rfl) ?_ _)
            go_wp2_with fail
            have en := hnk.out
            subst en
            refine ret_blk rfl w.heap.size _ [.slice A9 (put l2 (nextK la p secret d)).length cap9, .int .i64 0] _ rfl ((M9.set 0 (.slice A9 (put l2 (nextK la p secret d)).length cap9)).set 1 (.int .i64 0)) Tryd.underlying34 rfl (by kernel_rfl) rfl ⟨_, rfl, ⟨_, _, rfl, ?_⟩, ?_⟩
            · have hne : ∀ b off, A9 = some ⟨b, off, none⟩ → b ≠ w.heap.size := fun b off e h => by have := hge9.out b off e; omega
              exact (K9.set ⟨w.heap.size, 0, none⟩ hne _).set ⟨w.heap.size, 1, none⟩ hne _
            · exact (B9.setCell (p := ⟨w.heap.size, 0, none⟩) (Nat.le_refl _) _).setCell (p := ⟨w.heap.size, 1, none⟩) (Nat.le_refl _) _)
set_option maxRecDepth 100000 in
set_option maxHeartbeats 16000000 in
theorem rrevoke_any (A : Option Addr) (cap : Nat) (l : List KeyD) (p s d : Int) (w : World) (hl : Ks w A l) (hn : l.length ≤ 1000000) :
    Calls Tryd.prog 32 #[.slice A l.length cap, .int .i64 p, .int .i64 s, .int .i64 d] w fun e w' => ∃ v, e = .returned (.agg #[v, .int .i64 (revE l p s d)]) ∧ KsV w' v (revL l p s d) ∧ Below w.heap.size w w' := by
  have hk5 := fun k => hide (kC_size k)
  have hkl := fun a b => hide (kC_len a b)
  have hko := fun k => hide (kC_ones k)
  have hks := fun k e => hide (keyedC_size k e)
  have hkl6 := fun a b e f => hide (keyedC_len a b e f)
  have hko6 := fun k e => hide (keyedC_ones k e)
  have hb := (Below.refl w.heap.size w).alloc (Nat.le_refl _) (.cells #[.slice none 0 0, .int .i64 0] 34)
  have hM := Blk.new w [.slice none 0 0, .int .i64 0] 34
  have hL := Ks.below hl hb
  obtain ⟨W, hW, hM, hb, hL⟩ : ∃ W, W = w.alloc (.cells #[.slice none 0 0, .int .i64 0] 34) ∧ Blk W w.heap.size 34 [.slice none 0 0, .int .i64 0] ∧ Below w.heap.size w W ∧ Ks W A l := ⟨_, rfl, hM, hb, hL⟩
  have hl0 := hide hl
  clear hl
  have hc := fun W h => rfind_any A cap l p s W h hn
  cases hf : find l p s with
  | none =>
    obtain ⟨e1, e2⟩ := rev_none hf d
    rw [e1, e2]
    rw [findK_none hf, findE_none hf] at hc
    replace hc := hide hc
    clear e1 e2 hf
    go_enter Tryd.func32, Tryd.ntmps32
    go_wp2_with fail
    rw [← hW]
    clear hW
    refine (hc.out _ hL).mono ?_
    rintro e w2 ⟨rfl, hb2⟩
    have M2 := hM.ext hb2
    have L2 := Ks.below hL hb2
    have B2 := ext_trans hb hb2
    clear hM hb hL hb2
    go_wp2_with fail
    refine vl_store w2.heap.size 37 (keyedC (key0 0 0) 5) (keyedC (key0 0 0) 0) (by rfl) (by rfl) (Blk.new w2 _ _) (hks _ _).out (hkl6 _ _ _ _).out (hko6 _ _).out ?_
    rw [setRow_alloc]
    have Y3 := Blk.new w2 (keyedC (key0 0 0) 5) 37
    have M3 := M2.alloc (.cells (keyedC (key0 0 0) 5).toArray 37)
    have L3 := Rd.alloc L2 (.cells (keyedC (key0 0 0) 5).toArray 37)
    have B3 := ext_alloc B2 (.cells (keyedC (key0 0 0) 5).toArray 37)
    generalize w2.alloc (.cells (keyedC (key0 0 0) 5).toArray 37) = w3 at *
    clear M2 L2 B2
    have y5 := Y3.cell (i := 5) rfl
    have y1 := Y3.cell (i := 1) rfl
    have y3 := Y3.cell (i := 3) rfl
    have m0 := M3.cell (i := 0) rfl
    have m1 := M3.cell (i := 1) rfl
    have f0 := M3.frozen 0
    have f1 := M3.frozen 1
    (try simp only [Act.put, List.setIfInBounds_toArray, List.set_cons_zero, List.set_cons_succ])
    go_wp2_with fail
    refine ret_blk rfl w.heap.size _ [.slice none 0 0, .int .i64 5] _ rfl ((M3.set 0 (.slice none 0 0)).set 1 (.int .i64 5)) Tryd.underlying34 rfl (by kernel_rfl) rfl ⟨_, rfl, nil_ksv _, ?_⟩
    exact (B3.setCell (p := ⟨w.heap.size, 0, none⟩) (Nat.le_refl _) _).setCell (p := ⟨w.heap.size, 1, none⟩) (Nat.le_refl _) _
  | some la =>
    rw [findK_some hf, findE_some hf] at hc
    replace hc := hide hc
    by_cases hdf : d ≤ la.fr
    · obtain ⟨e1, e2⟩ := rev_time hf hdf
      rw [e1, e2]
      clear e1 e2
      replace hf := hide hf
      go_enter Tryd.func32, Tryd.ntmps32
      go_wp2_with fail
      rw [← hW]
      clear hW
      refine (hc.out _ hL).mono ?_
      rintro e w2 ⟨rfl, hb2⟩
      have M2 := hM.ext hb2
      have L2 := Ks.below hL hb2
      have B2 := ext_trans hb hb2
      clear hM hb hL hb2
      go_wp2_with fail
      refine vl_store w2.heap.size 37 (keyedC la 0) (keyedC (key0 0 0) 0) (by rfl) (by rfl) (Blk.new w2 _ _) (hks _ _).out (hkl6 _ _ _ _).out (hko6 _ _).out ?_
      rw [setRow_alloc]
      have Y3 := Blk.new w2 (keyedC la 0) 37
      have M3 := M2.alloc (.cells (keyedC la 0).toArray 37)
      have L3 := Rd.alloc L2 (.cells (keyedC la 0).toArray 37)
      have B3 := ext_alloc B2 (.cells (keyedC la 0).toArray 37)
      generalize w2.alloc (.cells (keyedC la 0).toArray 37) = w3 at *
      clear M2 L2 B2
      have y5 := Y3.cell (i := 5) rfl
      have y1 := Y3.cell (i := 1) rfl
      have y3 := Y3.cell (i := 3) rfl
      have m0 := M3.cell (i := 0) rfl
      have m1 := M3.cell (i := 1) rfl
      have f0 := M3.frozen 0
      have f1 := M3.frozen 1
      (try simp only [Act.put, List.setIfInBounds_toArray, List.set_cons_zero, List.set_cons_succ])
      go_wp2_with fail
      refine ret_blk rfl w.heap.size _ [.slice none 0 0, .int .i64 9] _ rfl ((M3.set 0 (.slice none 0 0)).set 1 (.int .i64 9)) Tryd.underlying34 rfl (by kernel_rfl) rfl ⟨_, rfl, nil_ksv _, ?_⟩
      exact (B3.setCell (p := ⟨w.heap.size, 0, none⟩) (Nat.le_refl _) _).setCell (p := ⟨w.heap.size, 1, none⟩) (Nat.le_refl _) _
    · obtain ⟨e1, e2⟩ := rev_ok hf hdf
      rw [e1, e2]
      clear e1 e2
      have hput := fun W h => put_any A cap l (capped la d) W h hn
      obtain ⟨l2, hl2⟩ : ∃ l2, l2 = put l (capped la d) := ⟨_, rfl⟩
      rw [← hl2] at hput ⊢
      replace hput := hide hput
      replace hl2 := hide hl2
      replace hf := hide hf
      go_enter Tryd.func32, Tryd.ntmps32
      go_wp2_with fail
      rw [← hW]
      clear hW
      refine (hc.out _ hL).mono ?_
      rintro e w2 ⟨rfl, hb2⟩
      have M2 := hM.ext hb2
      have L2 := Ks.below hL hb2
      have B2 := ext_trans hb hb2
      clear hM hb hL hb2
      go_wp2_with fail
      refine vl_store w2.heap.size 37 (keyedC la 0) (keyedC (key0 0 0) 0) (by rfl) (by rfl) (Blk.new w2 _ _) (hks _ _).out (hkl6 _ _ _ _).out (hko6 _ _).out ?_
      rw [setRow_alloc]
      have Y3 := Blk.new w2 (keyedC la 0) 37
      have M3 := M2.alloc (.cells (keyedC la 0).toArray 37)
      have L3 := Rd.alloc L2 (.cells (keyedC la 0).toArray 37)
      have B3 := ext_alloc B2 (.cells (keyedC la 0).toArray 37)
      generalize w2.alloc (.cells (keyedC la 0).toArray 37) = w3 at *
      clear M2 L2 B2
      have y5 := Y3.cell (i := 5) rfl
      have y1 := Y3.cell (i := 1) rfl
      have y3 := Y3.cell (i := 3) rfl
      have m0 := M3.cell (i := 0) rfl
      have m1 := M3.cell (i := 1) rfl
      have f0 := M3.frozen 0
      have f1 := M3.frozen 1
      (try simp only [Act.put, List.setIfInBounds_toArray, List.set_cons_zero, List.set_cons_succ])
      go_wp2_with fail
      refine vl_load_at w2.heap.size 0 (kC la) _ (by rfl) (Y3.take 5) Tryd.underlying24 (by rfl) (hk5 _).out ?_
      simp only [kC]
      (try simp only [Act.put, List.setIfInBounds_toArray, List.set_cons_zero, List.set_cons_succ])
      go_wp2_with fail
      refine vl_store w3.heap.size 24 (kC la) (kC (key0 0 0)) (by rfl) (by rfl) (Blk.new w3 _ _) (hk5 _).out (hkl _ _).out (hko _).out ?_
      rw [setRow_alloc]
      have Z6 := Blk.new w3 (kC la) 24
      have M6 := M3.alloc (.cells (kC la).toArray 24)
      have B6 := ext_alloc B3 (.cells (kC la).toArray 24)
      have s5 : w.heap.size < w3.heap.size := M3.lt
      generalize w3.alloc (.cells (kC la).toArray 24) = w6 at *
      clear Y3 M3 L3 B3 y5 y1 y3 m0 m1 f0 f1
      have z4 := Z6.cell (i := 4) rfl
      have g4 := Z6.frozen 4
      (try simp only [Act.put, List.setIfInBounds_toArray, List.set_cons_zero, List.set_cons_succ])
      go_wp2_with fail
      all_goals (
        first
          | (have em : min la.to d = d := (by omega); rw [show w6.setCell ⟨w3.heap.size, 4, none⟩ (.int .i64 d) = w6.setCell ⟨w3.heap.size, 4, none⟩ (.int .i64 (min la.to d)) by rw [em]])
          | (have em : min la.to d = la.to := (by omega); rw [show w6.setCell ⟨w3.heap.size, 4, none⟩ (.int .i64 la.to) = w6.setCell ⟨w3.heap.size, 4, none⟩ (.int .i64 (min la.to d)) by rw [em]])
        generalize hw7 : w6.setCell ⟨w3.heap.size, 4, none⟩ (.int .i64 (min la.to d)) = w7
        have Z7 := Z6.set 4 (.int .i64 (min la.to d))
        have M7 := M6.set_ne (b' := w3.heap.size) (by omega) 4 (.int .i64 (min la.to d))
        have B7 := B6.setCell (p := ⟨w3.heap.size, 4, none⟩) (by simp only; omega) (.int .i64 (min la.to d))
        rw [hw7] at Z7 M7 B7
        clear hw7
        have L7 := Ks.below hl0.out B7
        replace Z7 : Blk w7 w3.heap.size 24 (kC (capped la d)) := Z7
        clear Z6 M6 B6 z4 g4
        refine vl_load w3.heap.size 24 (kC (capped la d)) _ (by rfl) Z7 Tryd.underlying24 (by rfl) (hk5 _).out ?_
        simp only [kC]
        (try simp only [Act.put, List.setIfInBounds_toArray, List.set_cons_zero, List.set_cons_succ])
        go_wp2_with fail
        refine (hput.out _ L7).mono ?_
        rintro e w8 ⟨v8, rfl, own8, hb8⟩
        obtain ⟨A9, cap9, hv9, K9, hge9⟩ := own_ksv2 own8
        rw [hv9]
        have M9 := M7.ext hb8
        have s8 : w.heap.size < w7.heap.size := M7.lt
        have B9 := ext_trans B7 hb8
        replace hge9 := hide hge9
        clear own8 Z7 M7 B7 L7 hb8 hv9
        have m0 := M9.cell (i := 0) rfl
        have m1 := M9.cell (i := 1) rfl
        have f0 := M9.frozen 0
        have f1 := M9.frozen 1
        go_wp2_with fail
        refine ret_blk rfl w.heap.size _ [.slice A9 l2.length cap9, .int .i64 0] _ rfl ((M9.set 0 (.slice A9 l2.length cap9)).set 1 (.int .i64 0)) Tryd.underlying34 rfl (by kernel_rfl) rfl ⟨_, rfl, ⟨_, _, rfl, ?_⟩, ?_⟩
        · have hne : ∀ b off, A9 = some ⟨b, off, none⟩ → b ≠ w.heap.size := fun b off e h => by have := hge9.out b off e; omega
          exact (K9.set ⟨w.heap.size, 0, none⟩ hne _).set ⟨w.heap.size, 1, none⟩ hne _
        · exact (B9.setCell (p := ⟨w.heap.size, 0, none⟩) (Nat.le_refl _) _).setCell (p := ⟨w.heap.size, 1, none⟩) (Nat.le_refl _) _)
end Go.Proofs.YtbccfgeepdmegaaDoor
