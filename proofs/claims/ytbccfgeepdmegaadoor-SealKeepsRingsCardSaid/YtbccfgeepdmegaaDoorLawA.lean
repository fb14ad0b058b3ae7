/- Walk: the statement SealKeepsRings. -/
import Derived.Test.YtbccfgeepdmegaaDoorSanX
import Derived.Test.YtbccfgeepdmegaaDoorRefC
set_option linter.unusedVariables false
set_option linter.unusedSimpArgs false
set_option linter.unnecessarySimpa false
namespace Go.Proofs.YtbccfgeepdmegaaDoor
open Go Go.RowKit Mem
attribute [local go_sem ↓] Go.wp_at_zero Go.wp_at_succ veil_lk veil_sk veil_glk veil_ld37 veil_st37
/-- what lies there while the statement runs -/
structure EnvL (w W : World) (k : KeyD) (A : Option Addr) (l : List KeyD) : Prop where
  box : Blk W w.heap.size 24 (kC k)
  ks : Ks W A l
  cs : At W 0 0 (Sha.K.map vu32)
  lt : Below w.heap.size w W
theorem EnvL.ext {w W W' : World} {k : KeyD} {A : Option Addr} {l : List KeyD} (h : EnvL w W k A l) (hb : Below W.heap.size W W') : EnvL w W' k A l :=
  ⟨h.box.ext hb, h.ks.below hb, h.cs.below hb, ext_trans h.lt hb⟩
theorem EnvL.alloc {w W : World} {k : KeyD} {A : Option Addr} {l : List KeyD} (h : EnvL w W k A l) (o : Obj) : EnvL w (W.alloc o) k A l := h.ext ((Below.refl _ _).alloc (Nat.le_refl _) o)
theorem EnvL.drew {w W : World} {k : KeyD} {A : Option Addr} {l : List KeyD} (h : EnvL w W k A l) : EnvL w W.drew k A l := h.ext (Below.refl _ _).drew
theorem addL_len (l : List KeyD) (k : KeyD) : (addL l k).length ≤ l.length + 1 := by
  unfold addL
  split
  · have h := putTo_len k l
    unfold put
    split
    · rename_i hc; rw [hc] at h; simpa using h
    · rename_i hc
      have hf : (putTo k l).2 = false := by simpa using hc
      rw [hf] at h; simpa using h
  · simp
theorem keyed_take (k : KeyD) (e : Int) : (keyedC k e).take 5 = kC k := rfl
set_option maxRecDepth 100000 in
set_option maxHeartbeats 32000000 in
theorem law1_any (A : Option Addr) (cap : Nat) (l : List KeyD) (k : KeyD) (p s d : Int) (w : World) (hl : Ks w A l) (hok : oks l) (hk : k.ok) (hcap : l.length ≤ cap) (hc2 : cap ≤ 9223372036854775807) (hnil : A = none → cap = 0) (hd : -9223372036854775808 ≤ d) (hK : At w 0 0 (Sha.K.map vu32)) :
    Calls Tryd.prog 3 #[.slice A l.length cap, kV k, .int .i64 p, .int .i64 s, .int .i64 d] w fun e w' => e = .returned (.bool true) ∧ Below w.heap.size w w' := by
  have hk5 := fun k => hide (kC_size k)
  have hkl := fun a b => hide (kC_len a b)
  have hko := fun k => hide (kC_ones k)
  have hks := fun k e => hide (keyedC_size k e)
  have hkl6 := fun a b e f => hide (keyedC_len a b e f)
  have hko6 := fun k e => hide (keyedC_ones k e)
  have hb := (Below.refl w.heap.size w).alloc (Nat.le_refl _) (.cells (kC k).toArray 24)
  obtain ⟨W, hW, E0⟩ : ∃ W, W = w.alloc (.cells #[.int .i64 k.party, .int .i64 k.serial, .string k.secret, .int .i64 k.fr, .int .i64 k.to] 24) ∧ EnvL w W k A l := ⟨_, rfl, ⟨Blk.new w (kC k) 24, Ks.below hl hb, hK.below hb, hb⟩⟩
  replace hok := hide hok
  replace hk := hide hk
  replace hK := hide hK
  clear hl hb
  unfold kV
  by_cases h30 : l.length ≤ 30
  · have h30' : (l.length : Int) ≤ 30 := by omega
    have hn : l.length ≤ 1000000 := by omega
    have hring := fun W h => ring_any A cap l W h hok.out hn
    have hrring := fun W h => rring_any A cap l W h hn
    have hval := fun W => valid_any k W hk.out
    cases hr : ring l with
    | false =>
      rw [hr] at hring hrring
      replace hr := hide hr
      replace hring := hide hring
      replace hrring := hide hrring
      cases hv : k.valid
      all_goals (
        have hrval := fun W => rvalid_any k W
        rw [hv] at hval hrval
        replace hv := hide hv
        replace hval := hide hval
        replace hrval := hide hrval
        go_enter Tryd.func3, Tryd.ntmps3
        go_upto_region 3 with fail
        rw [← hW]
        clear hW
        refine wp_region_held_drew (S := (fun w' => (w'.cell? ⟨w.heap.size, 0, none⟩ = some (.int .i64 k.party) ∧ w'.cell? ⟨w.heap.size, 1, none⟩ = some (.int .i64 k.serial) ∧ w'.cell? ⟨w.heap.size, 2, none⟩ = some (.string k.secret) ∧ w'.cell? ⟨w.heap.size, 3, none⟩ = some (.int .i64 k.fr) ∧ w'.cell? ⟨w.heap.size, 4, none⟩ = some (.int .i64 k.to)))) (by kernel_rfl) (kbox E0.box) (fun hHeld => ?_)
        (refine wpAnyH_take (i := 0) (oi := ⟨some 25, _, _, _, _, _⟩) (v := ?_) rfl (by kernel_rfl) (by kernel_rfl) (by kernel_rfl) (fun _ _ _ h => h) (Or.inl ⟨by kernel_rfl, ?_⟩) hHeld ?_; rotate_left; (focus (intro wS hSw; (try dsimp only at hSw); go_simp; (try with_reducible rfl); done)); (try simp only [Act.put, List.setIfInBounds_toArray, List.set_cons_zero, List.set_cons_succ]); refine wpAnyH_take (i := 2) (oi := ⟨some 27, _, _, _, _, _⟩) (v := ?_) rfl (by kernel_rfl) (by kernel_rfl) (by kernel_rfl) (fun _ _ _ h => h) (Or.inl ⟨by kernel_rfl, ?_⟩) hHeld ?_; rotate_left; (focus (intro wS hSw; (try dsimp only at hSw); go_simp; (try with_reducible rfl); done)); (try simp only [Act.put, List.setIfInBounds_toArray, List.set_cons_zero, List.set_cons_succ]))
        (refine wpAnyH_ready (rs := [1]) (by kernel_rfl) (by simp) ?_; refine AllReadyH.cons (o := ⟨some 26, _, _, _, _, _⟩) rfl (fun K hK => ?_) AllReadyH.nil; go_simp)
        refine (hring.out _ E0.drew.ks).mono ?_
        rintro e w1 ⟨rfl, hb1⟩
        have E1 := E0.drew.ext hb1
        clear E0 hb1
        (refine hK.out _ _ (kbox E1.box) (fun hHeld => ?_); clear hK K; (try simp only [Act.put, List.setIfInBounds_toArray, List.set_cons_zero, List.set_cons_succ]))
        (refine wpAnyH_ready (rs := [3]) (by kernel_rfl) (by simp) ?_; refine AllReadyH.cons (o := ⟨some 28, _, _, _, _, _⟩) rfl (fun K hK => ?_) AllReadyH.nil; go_simp)
        refine (hrring.out _ E1.ks).mono ?_
        rintro e w2 ⟨rfl, hb2⟩
        have E2 := E1.ext hb2
        clear E1 hb2
        (refine hK.out _ _ (kbox E2.box) (fun hHeld => ?_); clear hK K; (try simp only [Act.put, List.setIfInBounds_toArray, List.set_cons_zero, List.set_cons_succ]))
        (refine wpAnyH_take (i := 4) (oi := ⟨some 29, _, _, _, _, _⟩) (v := ?_) rfl (by kernel_rfl) (by kernel_rfl) (by kernel_rfl) (fun _ _ _ h => h) (Or.inl ⟨by kernel_rfl, ?_⟩) hHeld ?_; rotate_left; (focus (intro wS hSw; (try dsimp only at hSw); go_simp; (try with_reducible rfl); done)); (try simp only [Act.put, List.setIfInBounds_toArray, List.set_cons_zero, List.set_cons_succ]); refine wpAnyH_take (i := 5) (oi := ⟨some 30, _, _, _, _, _⟩) (v := ?_) rfl (by kernel_rfl) (by kernel_rfl) (by kernel_rfl) (fun _ _ _ h => h) (Or.inl ⟨by kernel_rfl, ?_⟩) hHeld ?_; rotate_left; (focus (intro wS hSw; (try dsimp only at hSw); go_simp; (try with_reducible rfl); done)); (try simp only [Act.put, List.setIfInBounds_toArray, List.set_cons_zero, List.set_cons_succ]); refine wpAnyH_take (i := 6) (oi := ⟨some 31, _, _, _, _, _⟩) (v := ?_) rfl (by kernel_rfl) (by kernel_rfl) (by kernel_rfl) (fun _ _ _ h => h) (Or.inl ⟨by kernel_rfl, ?_⟩) hHeld ?_; rotate_left; (focus (intro wS hSw; (try dsimp only at hSw); go_simp; (try with_reducible rfl); done)); (try simp only [Act.put, List.setIfInBounds_toArray, List.set_cons_zero, List.set_cons_succ]); refine wpAnyH_take (i := 8) (oi := ⟨some 33, _, _, _, _, _⟩) (v := ?_) rfl (by kernel_rfl) (by kernel_rfl) (by kernel_rfl) (fun _ _ _ h => h) (Or.inl ⟨by kernel_rfl, ?_⟩) hHeld ?_; rotate_left; (focus (intro wS hSw; (try dsimp only at hSw); go_simp; (try with_reducible rfl); done)); (try simp only [Act.put, List.setIfInBounds_toArray, List.set_cons_zero, List.set_cons_succ]))
        (refine wpAnyH_ready (rs := [7]) (by kernel_rfl) (by simp) ?_; refine AllReadyH.cons (o := ⟨some 32, _, _, _, _, _⟩) rfl (fun K hK => ?_) AllReadyH.nil; go_simp)
        refine (hval.out _).mono ?_
        rintro e w3 ⟨rfl, hb3⟩
        have E3 := E2.ext hb3
        clear E2 hb3
        (refine hK.out _ _ (kbox E3.box) (fun hHeld => ?_); clear hK K; (try simp only [Act.put, List.setIfInBounds_toArray, List.set_cons_zero, List.set_cons_succ]))
        (refine wpAnyH_ready (rs := [9]) (by kernel_rfl) (by simp) ?_; refine AllReadyH.cons (o := ⟨some 34, _, _, _, _, _⟩) rfl (fun K hK => ?_) AllReadyH.nil; go_simp)
        refine (hrval.out _).mono ?_
        rintro e w4 ⟨rfl, hb4⟩
        have E4 := E3.ext hb4
        clear E3 hb4
        (refine hK.out _ _ (kbox E4.box) (fun hHeld => ?_); clear hK K; (try simp only [Act.put, List.setIfInBounds_toArray, List.set_cons_zero, List.set_cons_succ]))
        (refine wpAnyH_take (i := 10) (oi := ⟨some 35, _, _, _, _, _⟩) (v := ?_) rfl (by kernel_rfl) (by kernel_rfl) (by kernel_rfl) (fun _ _ _ h => h) (Or.inl ⟨by kernel_rfl, ?_⟩) hHeld ?_; rotate_left; (focus (intro wS hSw; (try dsimp only at hSw); go_simp; (try with_reducible rfl); done)); (try simp only [Act.put, List.setIfInBounds_toArray, List.set_cons_zero, List.set_cons_succ]); refine wpAnyH_take (i := 11) (oi := ⟨some 36, _, _, _, _, _⟩) (v := ?_) rfl (by kernel_rfl) (by kernel_rfl) (by kernel_rfl) (fun _ _ _ h => h) (Or.inl ⟨by kernel_rfl, ?_⟩) hHeld ?_; rotate_left; (focus (intro wS hSw; (try dsimp only at hSw); go_simp; (try with_reducible rfl); done)); (try simp only [Act.put, List.setIfInBounds_toArray, List.set_cons_zero, List.set_cons_succ]))
        (refine wpAnyH_done (by kernel_rfl) ?_ _)
        go_wp2_with fail
        refine (hrring.out _ E4.ks).mono ?_
        rintro e w5 ⟨rfl, hb5⟩
        have E5 := E4.ext hb5
        clear E4 hb5
        go_wp2_with fail
        refine (sanity_any _ E5.cs).mono ?_
        rintro e w6 ⟨rfl, hb6⟩
        go_wp2_with fail
        go_ret
        exact ⟨rfl, ext_trans E5.lt hb6⟩)
    | true =>
      rw [hr] at hring hrring
      have hadd := fun W h => add_keys A cap l k W h (ring_sorted hr) hk.out hn hcap hc2 hnil
      have hradd := fun W h => radd_any A cap l k W h hn
      have hfind := fun W h => find_any A cap l p s W h (ring_sorted hr) hn
      have hrfind := fun W h => rfind_any A cap l p s W h hn
      have hcur := fun W h => current_keys A cap l p d W h hr hn hcap hc2 hd
      have hrcur := fun W h => rcurrent_any A cap l p d W h hn
      have hln : (addL l k).length ≤ 1000000 := by have := addL_len l k; omega
      have hsame := fun B C c c' W h h' => same_any B C c c' (addL l k) (addL l k) W h h' hln hln
      replace hr := hide hr
      replace hring := hide hring
      replace hrring := hide hrring
      replace hadd := hide hadd
      replace hradd := hide hradd
      replace hfind := hide hfind
      replace hrfind := hide hrfind
      replace hcur := hide hcur
      replace hrcur := hide hrcur
      replace hsame := hide hsame
      obtain ⟨fk, hfk⟩ : ∃ fk, fk = findK l p s := ⟨_, rfl⟩
      obtain ⟨fe, hfe⟩ : ∃ fe, fe = findE l p s := ⟨_, rfl⟩
      obtain ⟨ck, hck⟩ : ∃ ck, ck = (curD l p d).1 := ⟨_, rfl⟩
      obtain ⟨ce, hce⟩ : ∃ ce, ce = (curD l p d).2 := ⟨_, rfl⟩
      rw [← hfk, ← hfe] at hfind hrfind
      rw [← hck, ← hce] at hcur hrcur
      clear hfk hfe hck hce
      cases hv : k.valid
      all_goals (
        have hrval := fun W => rvalid_any k W
        rw [hv] at hval hrval
        replace hv := hide hv
        replace hval := hide hval
        replace hrval := hide hrval
        go_enter Tryd.func3, Tryd.ntmps3
        go_upto_region 3 with fail
        rw [← hW]
        clear hW
        refine wp_region_held_drew (S := (fun w' => (w'.cell? ⟨w.heap.size, 0, none⟩ = some (.int .i64 k.party) ∧ w'.cell? ⟨w.heap.size, 1, none⟩ = some (.int .i64 k.serial) ∧ w'.cell? ⟨w.heap.size, 2, none⟩ = some (.string k.secret) ∧ w'.cell? ⟨w.heap.size, 3, none⟩ = some (.int .i64 k.fr) ∧ w'.cell? ⟨w.heap.size, 4, none⟩ = some (.int .i64 k.to)))) (by kernel_rfl) (kbox E0.box) (fun hHeld => ?_)
        (refine wpAnyH_take (i := 0) (oi := ⟨some 25, _, _, _, _, _⟩) (v := ?_) rfl (by kernel_rfl) (by kernel_rfl) (by kernel_rfl) (fun _ _ _ h => h) (Or.inl ⟨by kernel_rfl, ?_⟩) hHeld ?_; rotate_left; (focus (intro wS hSw; (try dsimp only at hSw); go_simp; (try with_reducible rfl); done)); (try simp only [Act.put, List.setIfInBounds_toArray, List.set_cons_zero, List.set_cons_succ]); refine wpAnyH_take (i := 2) (oi := ⟨some 27, _, _, _, _, _⟩) (v := ?_) rfl (by kernel_rfl) (by kernel_rfl) (by kernel_rfl) (fun _ _ _ h => h) (Or.inl ⟨by kernel_rfl, ?_⟩) hHeld ?_; rotate_left; (focus (intro wS hSw; (try dsimp only at hSw); go_simp; (try with_reducible rfl); done)); (try simp only [Act.put, List.setIfInBounds_toArray, List.set_cons_zero, List.set_cons_succ]))
        (refine wpAnyH_ready (rs := [1]) (by kernel_rfl) (by simp) ?_; refine AllReadyH.cons (o := ⟨some 26, _, _, _, _, _⟩) rfl (fun K hK => ?_) AllReadyH.nil; go_simp)
        refine (hring.out _ E0.drew.ks).mono ?_
        rintro e w1 ⟨rfl, hb1⟩
        have E1 := E0.drew.ext hb1
        clear E0 hb1
        (refine hK.out _ _ (kbox E1.box) (fun hHeld => ?_); clear hK K; (try simp only [Act.put, List.setIfInBounds_toArray, List.set_cons_zero, List.set_cons_succ]))
        (refine wpAnyH_ready (rs := [3]) (by kernel_rfl) (by simp) ?_; refine AllReadyH.cons (o := ⟨some 28, _, _, _, _, _⟩) rfl (fun K hK => ?_) AllReadyH.nil; go_simp)
        refine (hrring.out _ E1.ks).mono ?_
        rintro e w2 ⟨rfl, hb2⟩
        have E2 := E1.ext hb2
        clear E1 hb2
        (refine hK.out _ _ (kbox E2.box) (fun hHeld => ?_); clear hK K; (try simp only [Act.put, List.setIfInBounds_toArray, List.set_cons_zero, List.set_cons_succ]))
        (refine wpAnyH_take (i := 4) (oi := ⟨some 29, _, _, _, _, _⟩) (v := ?_) rfl (by kernel_rfl) (by kernel_rfl) (by kernel_rfl) (fun _ _ _ h => h) (Or.inl ⟨by kernel_rfl, ?_⟩) hHeld ?_; rotate_left; (focus (intro wS hSw; (try dsimp only at hSw); go_simp; (try with_reducible rfl); done)); (try simp only [Act.put, List.setIfInBounds_toArray, List.set_cons_zero, List.set_cons_succ]); refine wpAnyH_take (i := 5) (oi := ⟨some 30, _, _, _, _, _⟩) (v := ?_) rfl (by kernel_rfl) (by kernel_rfl) (by kernel_rfl) (fun _ _ _ h => h) (Or.inl ⟨by kernel_rfl, ?_⟩) hHeld ?_; rotate_left; (focus (intro wS hSw; (try dsimp only at hSw); go_simp; (try with_reducible rfl); done)); (try simp only [Act.put, List.setIfInBounds_toArray, List.set_cons_zero, List.set_cons_succ]); refine wpAnyH_take (i := 6) (oi := ⟨some 31, _, _, _, _, _⟩) (v := ?_) rfl (by kernel_rfl) (by kernel_rfl) (by kernel_rfl) (fun _ _ _ h => h) (Or.inl ⟨by kernel_rfl, ?_⟩) hHeld ?_; rotate_left; (focus (intro wS hSw; (try dsimp only at hSw); go_simp; (try with_reducible rfl); done)); (try simp only [Act.put, List.setIfInBounds_toArray, List.set_cons_zero, List.set_cons_succ]); refine wpAnyH_take (i := 8) (oi := ⟨some 33, _, _, _, _, _⟩) (v := ?_) rfl (by kernel_rfl) (by kernel_rfl) (by kernel_rfl) (fun _ _ _ h => h) (Or.inl ⟨by kernel_rfl, ?_⟩) hHeld ?_; rotate_left; (focus (intro wS hSw; (try dsimp only at hSw); go_simp; (try with_reducible rfl); done)); (try simp only [Act.put, List.setIfInBounds_toArray, List.set_cons_zero, List.set_cons_succ]))
        (refine wpAnyH_ready (rs := [7]) (by kernel_rfl) (by simp) ?_; refine AllReadyH.cons (o := ⟨some 32, _, _, _, _, _⟩) rfl (fun K hK => ?_) AllReadyH.nil; go_simp)
        refine (hval.out _).mono ?_
        rintro e w3 ⟨rfl, hb3⟩
        have E3 := E2.ext hb3
        clear E2 hb3
        (refine hK.out _ _ (kbox E3.box) (fun hHeld => ?_); clear hK K; (try simp only [Act.put, List.setIfInBounds_toArray, List.set_cons_zero, List.set_cons_succ]))
        (refine wpAnyH_ready (rs := [9]) (by kernel_rfl) (by simp) ?_; refine AllReadyH.cons (o := ⟨some 34, _, _, _, _, _⟩) rfl (fun K hK => ?_) AllReadyH.nil; go_simp)
        refine (hrval.out _).mono ?_
        rintro e w4 ⟨rfl, hb4⟩
        have E4 := E3.ext hb4
        clear E3 hb4
        (refine hK.out _ _ (kbox E4.box) (fun hHeld => ?_); clear hK K; (try simp only [Act.put, List.setIfInBounds_toArray, List.set_cons_zero, List.set_cons_succ]))
        (refine wpAnyH_take (i := 10) (oi := ⟨some 35, _, _, _, _, _⟩) (v := ?_) rfl (by kernel_rfl) (by kernel_rfl) (by kernel_rfl) (fun _ _ _ h => h) (Or.inl ⟨by kernel_rfl, ?_⟩) hHeld ?_; rotate_left; (focus (intro wS hSw; (try dsimp only at hSw); go_simp; (try with_reducible rfl); done)); (try simp only [Act.put, List.setIfInBounds_toArray, List.set_cons_zero, List.set_cons_succ]); refine wpAnyH_take (i := 11) (oi := ⟨some 36, _, _, _, _, _⟩) (v := ?_) rfl (by kernel_rfl) (by kernel_rfl) (by kernel_rfl) (fun _ _ _ h => h) (Or.inl ⟨by kernel_rfl, ?_⟩) hHeld ?_; rotate_left; (focus (intro wS hSw; (try dsimp only at hSw); go_simp; (try with_reducible rfl); done)); (try simp only [Act.put, List.setIfInBounds_toArray, List.set_cons_zero, List.set_cons_succ]))
        (refine wpAnyH_done (by kernel_rfl) ?_ _)
        go_wp2_with fail
        refine (hrring.out _ E4.ks).mono ?_
        rintro e w5 ⟨rfl, hb5⟩
        have E5 := E4.ext hb5
        clear E4 hb5
        go_wp2_with fail
        refine vl_load w.heap.size 24 (kC k) _ (by rfl) E5.box Tryd.underlying24 (by rfl) (hk5 _).out ?_
        simp only [kC]
        (try simp only [Act.put, List.setIfInBounds_toArray, List.set_cons_zero, List.set_cons_succ])
        go_wp2_with fail
        refine (hadd.out _ E5.ks).mono ?_
        rintro e w6 ⟨v6, rfl, ⟨B6, cap6, rfl, L6, q1, q2, q3⟩, hb6⟩
        have E6 := E5.ext hb6
        clear E5 hb6
        go_wp2_with fail
        refine (hfind.out _ E6.ks).mono ?_
        rintro e w7 ⟨rfl, hb7⟩
        unfold kV
        have E7 := E6.ext hb7
        have L7 := Ks.below L6 hb7
        clear E6 hb7 L6
        go_wp2_with fail
        refine vl_store w7.heap.size 24 (kC fk) (kC (key0 0 0)) (by rfl) (by rfl) (Blk.new w7 _ _) (hk5 _).out (hkl _ _).out (hko _).out ?_
        rw [setRow_alloc]
        have E8 := E7.alloc (.cells (kC fk).toArray 24)
        have L8 := Rd.alloc L7 (.cells (kC fk).toArray 24)
        have F8 := Blk.new w7 (kC fk) 24
        generalize w7.alloc (.cells (kC fk).toArray 24) = w8 at *
        clear E7 L7
        (try simp only [Act.put, List.setIfInBounds_toArray, List.set_cons_zero, List.set_cons_succ])
        go_wp2_with fail
        refine (hcur.out _ E8.ks).mono ?_
        rintro e w9 ⟨rfl, hb9⟩
        unfold kV
        have E9 := E8.ext hb9
        have L9 := Ks.below L8 hb9
        have F9 := F8.ext hb9
        clear E8 hb9 L8 F8
        go_wp2_with fail
        refine vl_store w9.heap.size 24 (kC ck) (kC (key0 0 0)) (by rfl) (by rfl) (Blk.new w9 _ _) (hk5 _).out (hkl _ _).out (hko _).out ?_
        rw [setRow_alloc]
        have E10 := E9.alloc (.cells (kC ck).toArray 24)
        have L10 := Rd.alloc L9 (.cells (kC ck).toArray 24)
        have F10 := F9.alloc (.cells (kC ck).toArray 24)
        have C10 := Blk.new w9 (kC ck) 24
        generalize w9.alloc (.cells (kC ck).toArray 24) = w10 at *
        clear E9 L9 F9
        (try simp only [Act.put, List.setIfInBounds_toArray, List.set_cons_zero, List.set_cons_succ])
        go_wp2_with fail
        refine vl_load w.heap.size 24 (kC k) _ (by rfl) E10.box Tryd.underlying24 (by rfl) (hk5 _).out ?_
        simp only [kC]
        (try simp only [Act.put, List.setIfInBounds_toArray, List.set_cons_zero, List.set_cons_succ])
        go_wp2_with fail
        refine (hradd.out _ E10.ks).mono ?_
        rintro e w11 ⟨v11, rfl, ⟨B11, cap11, rfl, M11⟩, hb11⟩
        have E11 := E10.ext hb11
        have L11 := Ks.below L10 hb11
        have F11 := F10.ext hb11
        have C11 := C10.ext hb11
        clear E10 hb11 L10 F10 C10
        go_wp2_with fail
        have E12 := E11.alloc (.cells #[.slice B11 (addL l k).length cap11, .int .i64 (addE l k)] 34)
        have L12 := Rd.alloc L11 (.cells #[.slice B11 (addL l k).length cap11, .int .i64 (addE l k)] 34)
        have M12 := Rd.alloc M11 (.cells #[.slice B11 (addL l k).length cap11, .int .i64 (addE l k)] 34)
        have F12 := F11.alloc (.cells #[.slice B11 (addL l k).length cap11, .int .i64 (addE l k)] 34)
        have C12 := C11.alloc (.cells #[.slice B11 (addL l k).length cap11, .int .i64 (addE l k)] 34)
        have D12 := Blk.new w11 [.slice B11 (addL l k).length cap11, .int .i64 (addE l k)] 34
        refine (hrfind.out _ E12.ks).mono ?_
        rintro e w13 ⟨rfl, hb13⟩
        have E13 := E12.ext hb13
        have L13 := Ks.below L12 hb13
        have M13 := Ks.below M12 hb13
        have F13 := F12.ext hb13
        have C13 := C12.ext hb13
        have D13 := D12.ext hb13
        clear E12 hb13 L12 M12 F12 C12 D12 E11 L11 M11 F11 C11
        go_wp2_with fail
        refine vl_store w13.heap.size 37 (keyedC fk fe) (keyedC (key0 0 0) 0) (by rfl) (by rfl) (Blk.new w13 _ _) (hks _ _).out (hkl6 _ _ _ _).out (hko6 _ _).out ?_
        rw [setRow_alloc]
        have E14 := E13.alloc (.cells (keyedC fk fe).toArray 37)
        have L14 := Rd.alloc L13 (.cells (keyedC fk fe).toArray 37)
        have M14 := Rd.alloc M13 (.cells (keyedC fk fe).toArray 37)
        have F14 := F13.alloc (.cells (keyedC fk fe).toArray 37)
        have C14 := C13.alloc (.cells (keyedC fk fe).toArray 37)
        have D14 := D13.alloc (.cells (keyedC fk fe).toArray 37)
        have G14 := Blk.new w13 (keyedC fk fe) 37
        generalize w13.alloc (.cells (keyedC fk fe).toArray 37) = w14 at *
        clear E13 L13 M13 F13 C13 D13
        (try simp only [Act.put, List.setIfInBounds_toArray, List.set_cons_zero, List.set_cons_succ])
        go_wp2_with fail
        refine (hrcur.out _ E14.ks).mono ?_
        rintro e w15 ⟨rfl, hb15⟩
        have E15 := E14.ext hb15
        have L15 := Ks.below L14 hb15
        have M15 := Ks.below M14 hb15
        have F15 := F14.ext hb15
        have C15 := C14.ext hb15
        have D15 := D14.ext hb15
        have G15 := G14.ext hb15
        clear E14 hb15 L14 M14 F14 C14 D14 G14
        go_wp2_with fail
        refine vl_store w15.heap.size 37 (keyedC ck ce) (keyedC (key0 0 0) 0) (by rfl) (by rfl) (Blk.new w15 _ _) (hks _ _).out (hkl6 _ _ _ _).out (hko6 _ _).out ?_
        rw [setRow_alloc]
        have E16 := E15.alloc (.cells (keyedC ck ce).toArray 37)
        have L16 := Rd.alloc L15 (.cells (keyedC ck ce).toArray 37)
        have M16 := Rd.alloc M15 (.cells (keyedC ck ce).toArray 37)
        have F16 := F15.alloc (.cells (keyedC ck ce).toArray 37)
        have C16 := C15.alloc (.cells (keyedC ck ce).toArray 37)
        have D16 := D15.alloc (.cells (keyedC ck ce).toArray 37)
        have G16 := G15.alloc (.cells (keyedC ck ce).toArray 37)
        have H16 := Blk.new w15 (keyedC ck ce) 37
        generalize w15.alloc (.cells (keyedC ck ce).toArray 37) = w16 at *
        clear E15 L15 M15 F15 C15 D15 G15
        (try simp only [Act.put, List.setIfInBounds_toArray, List.set_cons_zero, List.set_cons_succ])
        go_wp2_with fail
        refine (sanity_any _ E16.cs).mono ?_
        rintro e w17 ⟨rfl, hb17⟩
        have E17 := E16.ext hb17
        have L17 := Ks.below L16 hb17
        have M17 := Ks.below M16 hb17
        have F17 := F16.ext hb17
        have C17 := C16.ext hb17
        have D17 := D16.ext hb17
        have G17 := G16.ext hb17
        have H17 := H16.ext hb17
        clear E16 hb17 L16 M16 F16 C16 D16 G16 H16
        have d0 := D17.cell (i := 0) rfl
        have d1 := D17.cell (i := 1) rfl
        have g5 := G17.cell (i := 5) rfl
        have h5 := H17.cell (i := 5) rfl
        go_wp2_with fail
        refine (hsame.out _ _ _ _ _ L17 M17).mono ?_
        rintro e w18 ⟨rfl, hb18⟩
        have E18 := E17.ext hb18
        have F18 := F17.ext hb18
        have C18 := C17.ext hb18
        have D18 := D17.ext hb18
        have G18 := G17.ext hb18
        have H18 := H17.ext hb18
        clear E17 hb18 L17 M17 F17 C17 D17 G17 H17 d0 d1 g5 h5
        have d1 := D18.cell (i := 1) rfl
        have g5 := G18.cell (i := 5) rfl
        have h5 := H18.cell (i := 5) rfl
        simp only [decide_true]
        go_wp2_with fail
        refine vl_load w7.heap.size 24 (kC fk) _ (by rfl) F18 Tryd.underlying24 (by rfl) (hk5 _).out ?_
        simp only [kC]
        (try simp only [Act.put, List.setIfInBounds_toArray, List.set_cons_zero, List.set_cons_succ])
        go_wp2_with fail
        refine vl_load_at w13.heap.size 0 (kC fk) _ (by rfl) (G18.take 5) Tryd.underlying24 (by rfl) (hk5 _).out ?_
        simp only [kC]
        (try simp only [Act.put, List.setIfInBounds_toArray, List.set_cons_zero, List.set_cons_succ])
        go_wp2_with fail
        refine vl_load w9.heap.size 24 (kC ck) _ (by rfl) C18 Tryd.underlying24 (by rfl) (hk5 _).out ?_
        simp only [kC]
        (try simp only [Act.put, List.setIfInBounds_toArray, List.set_cons_zero, List.set_cons_succ])
        go_wp2_with fail
        refine vl_load_at w15.heap.size 0 (kC ck) _ (by rfl) (H18.take 5) Tryd.underlying24 (by rfl) (hk5 _).out ?_
        simp only [kC]
        (try simp only [Act.put, List.setIfInBounds_toArray, List.set_cons_zero, List.set_cons_succ])
        go_wp2_with fail
        go_ret
        exact ⟨rfl, E18.lt⟩)
  · have h30' : (30 : Int) < (l.length : Int) := by omega
    go_enter Tryd.func3, Tryd.ntmps3
    go_wp2_with (go_at_call 9; rw [← hW]; refine (sanity_any _ E0.cs).mono ?_; rintro e w2 ⟨rfl, hb2⟩)
    go_ret
    exact ⟨rfl, ext_trans E0.lt hb2⟩
end Go.Proofs.YtbccfgeepdmegaaDoor
