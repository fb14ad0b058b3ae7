/- Walk: the statement SealBlindsApart. -/
import Derived.Test.YtbccfgeepdmegaaDoorSanX
import Derived.Test.YtbccfgeepdmegaaDoorRefD
set_option linter.unusedVariables false
set_option linter.unusedSimpArgs false
set_option linter.unnecessarySimpa false
namespace Go.Proofs.YtbccfgeepdmegaaDoor
open Go Go.RowKit Mem
attribute [local go_sem ↓] Go.wp_at_zero Go.wp_at_succ veil_ldig veil_sdig veil_gldig
/-- what lies there while the statement runs -/
structure EnvB (w W : World) (A B : Option Addr) (a b : List ByteArray) : Prop where
  ra : Rd W A (a.map .string)
  rb : Rd W B (b.map .string)
  cs : At W 0 0 (Sha.K.map vu32)
  lt : Below w.heap.size w W
theorem EnvB.ext {w W W' : World} {A B : Option Addr} {a b : List ByteArray} (h : EnvB w W A B a b) (hb : Below W.heap.size W W') : EnvB w W' A B a b :=
  ⟨Rd.below h.ra hb, Rd.below h.rb hb, h.cs.below hb, ext_trans h.lt hb⟩
theorem EnvB.alloc {w W : World} {A B : Option Addr} {a b : List ByteArray} (h : EnvB w W A B a b) (o : Obj) : EnvB w (W.alloc o) A B a b := h.ext ((Below.refl _ _).alloc (Nat.le_refl _) o)
theorem EnvB.drew {w W : World} {A B : Option Addr} {a b : List ByteArray} (h : EnvB w W A B a b) : EnvB w W.drew A B a b := h.ext (Below.refl _ _).drew
set_option maxRecDepth 100000 in
set_option maxHeartbeats 32000000 in
theorem law6_any (x y : ByteArray) (A B : Option Addr) (ca cb : Nat) (a b : List ByteArray) (w : World) (ha : Rd w A (a.map .string)) (hb : Rd w B (b.map .string)) (hx : x.size ≤ 9223372036854775807) (hy : y.size ≤ 9223372036854775807) (hna : a.length ≤ 9223372036854775807) (hnb : b.length ≤ 9223372036854775807)
    (hK : At w 0 0 (Sha.K.map vu32)) :
    Calls Tryd.prog 6 #[.string x, .string y, .slice A a.length ca, .slice B b.length cb] w fun e w' => e = .returned (.bool true) ∧ Below w.heap.size w w' := by
  by_cases h1 : 300 < x.size
  · have h1' : (300 : Int) < (x.size : Int) := by omega
    go_enter Tryd.func6, Tryd.ntmps6
    go_wp2_with (go_at_call 9; refine (sanity_any _ hK).mono ?_; rintro e w2 ⟨rfl, hb2⟩)
    go_ret
    exact ⟨rfl, hb2⟩
  have h1' : ¬ (300 : Int) < (x.size : Int) := by omega
  by_cases h2 : 300 < y.size
  · have h2' : (300 : Int) < (y.size : Int) := by omega
    go_enter Tryd.func6, Tryd.ntmps6
    go_wp2_with (go_at_call 9; refine (sanity_any _ hK).mono ?_; rintro e w2 ⟨rfl, hb2⟩)
    go_ret
    exact ⟨rfl, hb2⟩
  have h2' : ¬ (300 : Int) < (y.size : Int) := by omega
  have hsa := fun W h => short_any A ca a 8 W h hna
  have hsb := fun W h => short_any B cb b 8 W h hnb
  cases e1 : shortD a 8 with
  | false =>
    rw [e1] at hsa
    replace hsa := hide hsa
    replace hsb := hide hsb
    replace e1 := hide e1
    go_enter Tryd.func6, Tryd.ntmps6
    go_wp2_with fail
    refine (hsa.out _ ha).mono ?_
    rintro e w1 ⟨rfl, hb1⟩
    have K1 := At.below hK hb1
    go_wp2_with (go_at_call 9; refine (sanity_any _ K1).mono ?_; rintro e w2 ⟨rfl, hb2⟩)
    go_ret
    exact ⟨rfl, ext_trans hb1 hb2⟩
  | true =>
    rw [e1] at hsa
    cases e2 : shortD b 8 with
    | false =>
      rw [e2] at hsb
      replace hsa := hide hsa
      replace hsb := hide hsb
      replace e1 := hide e1
      replace e2 := hide e2
      go_enter Tryd.func6, Tryd.ntmps6
      go_wp2_with fail
      refine (hsa.out _ ha).mono ?_
      rintro e w1 ⟨rfl, hb1⟩
      go_wp2_with fail
      refine (hsb.out _ (Rd.below hb hb1)).mono ?_
      rintro e w2 ⟨rfl, hb2⟩
      have B2 := ext_trans hb1 hb2
      have K2 := At.below hK B2
      go_wp2_with (go_at_call 9; refine (sanity_any _ K2).mono ?_; rintro e w3 ⟨rfl, hb3⟩)
      go_ret
      exact ⟨rfl, ext_trans B2 hb3⟩
    | true =>
      rw [e2] at hsb
      rw [shortD_iff] at e1 e2
      have pa : ∀ p ∈ a, p.size ≤ 1000000 := fun p hp => by have := e1.1 p hp; omega
      have pb : ∀ p ∈ b, p.size ≤ 1000000 := fun p hp => by have := e2.1 p hp; omega
      have na : a.length ≤ 1000 := by have := e1.2; omega
      have nb : b.length ≤ 1000 := by have := e2.2; omega
      have hba := fun W h => blind_any x A ca a W h pa (by omega) na
      have hbb := fun W h => blind_any y B cb b W h pb (by omega) nb
      have hoa := fun d hd W h => opens_any d hd x A ca a W h pa (by omega) na
      have hob := fun d hd W h => opens_any d hd y B cb b W h pb (by omega) nb
      have ma := bl_16 x a
      have mb := bl_16 y b
      obtain ⟨F, hF⟩ : ∃ F, F = bl x a := ⟨_, rfl⟩
      obtain ⟨G, hG⟩ : ∃ G, G = bl y b := ⟨_, rfl⟩
      rw [← hF] at ma hba
      rw [← hG] at mb hbb
      have o1 := fun W h h' => hoa F ma W h h'
      have o2 := fun W h h' => hob G mb W h h'
      have o3 := fun W h h' => hob F ma W h h'
      have o4 := fun W h h' => hoa G mb W h h'
      rw [← hF] at o1 o4
      rw [← hG] at o2 o3
      have heq := fun W => eqIn_dig ma mb W
      rw [show decide (F = F) = true from decide_eq_true rfl] at o1
      rw [show decide (G = G) = true from decide_eq_true rfl] at o2
      obtain ⟨r, hr⟩ : ∃ r, r = decide (F = G) := ⟨_, rfl⟩
      have hr2 : decide (G = F) = r := by rw [hr]; exact decide_eq_decide.2 eq_comm
      rw [hr2] at o3
      rw [← hr] at o4 heq
      have i1 := hide (d16_dig ma)
      have i2 := hide (show (List.replicate 16 (Value.int .u8 0)).length = (F.map vu8).length by rw [List.length_map, ma.1]; rfl)
      have i3 := hide (vu8_ones F)
      have j1 := hide (d16_dig mb)
      have j2 := hide (show (List.replicate 16 (Value.int .u8 0)).length = (G.map vu8).length by rw [List.length_map, mb.1]; rfl)
      have j3 := hide (vu8_ones G)
      have E0 : EnvB w w A B a b := ⟨ha, hb, hK, Below.refl _ _⟩
      replace o1 := hide o1
      replace o2 := hide o2
      replace o3 := hide o3
      replace o4 := hide o4
      replace hba := hide hba
      replace hbb := hide hbb
      replace hsa := hide hsa
      replace hsb := hide hsb
      clear hr hr2 hF hG ma mb pa pb na nb e1 e2 ha hb hK hoa hob
      cases r
      all_goals (
        go_enter Tryd.func6, Tryd.ntmps6
        go_wp2_with fail
        refine (hsa.out _ E0.ra).mono ?_
        rintro e w1 ⟨rfl, hb1⟩
        have E1 := E0.ext hb1
        clear E0 hb1
        go_wp2_with fail
        refine (hsb.out _ E1.rb).mono ?_
        rintro e w2 ⟨rfl, hb2⟩
        have E2 := E1.ext hb2
        clear E1 hb2
        go_wp2_with fail
        refine (hba.out _ E2.ra E2.cs).mono ?_
        rintro e w3 ⟨rfl, hb3⟩
        have E3 := E2.ext hb3
        clear E2 hb3
        go_wp2_with fail
        refine vl_store w3.heap.size 44 (F.map vu8) (List.replicate 16 (.int .u8 0)) (by rfl) (by rfl) (Blk.new w3 _ _) i1.out i2.out i3.out ?_
        rw [setRow_alloc]
        have E4 := E3.alloc (.cells (F.map vu8).toArray 44)
        have F4 := Blk.new w3 (F.map vu8) 44
        generalize w3.alloc (.cells (F.map vu8).toArray 44) = w4 at *
        clear E3
        (try simp only [Act.put, List.setIfInBounds_toArray, List.set_cons_zero, List.set_cons_succ])
        go_wp2_with fail
        refine (hbb.out _ E4.rb E4.cs).mono ?_
        rintro e w5 ⟨rfl, hb5⟩
        have E5 := E4.ext hb5
        have F5 := F4.ext hb5
        clear E4 F4 hb5
        go_wp2_with fail
        refine vl_store w5.heap.size 44 (G.map vu8) (List.replicate 16 (.int .u8 0)) (by rfl) (by rfl) (Blk.new w5 _ _) j1.out j2.out j3.out ?_
        rw [setRow_alloc]
        have E6 := E5.alloc (.cells (G.map vu8).toArray 44)
        have F6 := F5.alloc (.cells (G.map vu8).toArray 44)
        have G6 := Blk.new w5 (G.map vu8) 44
        generalize w5.alloc (.cells (G.map vu8).toArray 44) = w6 at *
        clear E5 F5
        (try simp only [Act.put, List.setIfInBounds_toArray, List.set_cons_zero, List.set_cons_succ])
        go_wp2_with fail
        refine wp_region_held_drew (S := (fun w' => At w' w3.heap.size 0 (F.map vu8) ∧ At w' w5.heap.size 0 (G.map vu8))) (by kernel_rfl) (⟨At.of_blk F6, At.of_blk G6⟩) (fun hHeld => ?_)
        (refine wpAnyH_ready (rs := [0]) (by kernel_rfl) (by simp) ?_; refine AllReadyH.cons (o := ⟨some 36, _, _, _, _, _⟩) rfl (fun K hK => ?_) AllReadyH.nil; go_simp)
        refine (sanity_any _ E6.drew.cs).mono ?_
        rintro e w7 ⟨rfl, hb7⟩
        have E7 := E6.drew.ext hb7
        have F7 := F6.drew.ext hb7
        have G7 := G6.drew.ext hb7
        clear E6 F6 G6 hb7
        (refine hK.out _ _ (⟨At.of_blk F7, At.of_blk G7⟩) (fun hHeld => ?_); clear hK K; (try simp only [Act.put, List.setIfInBounds_toArray, List.set_cons_zero, List.set_cons_succ]))
        (refine wpAnyH_take (i := 1) (oi := ⟨some 37, _, _, _, _, _⟩) (v := ?_) rfl (by kernel_rfl) (by kernel_rfl) (by kernel_rfl) (fun _ _ _ h => h) (Or.inl ⟨by kernel_rfl, ?_⟩) hHeld ?_; rotate_left; (focus (intro wS hSw; (try dsimp only at hSw); go_simp; (try with_reducible rfl); done)); (try simp only [Act.put, List.setIfInBounds_toArray, List.set_cons_zero, List.set_cons_succ]); refine wpAnyH_take (i := 3) (oi := ⟨some 39, _, _, _, _, _⟩) (v := ?_) rfl (by kernel_rfl) (by kernel_rfl) (by kernel_rfl) (fun _ _ _ h => h) (Or.inl ⟨by kernel_rfl, ?_⟩) hHeld ?_; rotate_left; (focus (intro wS hSw; (try dsimp only at hSw); go_simp; (try with_reducible rfl); done)); (try simp only [Act.put, List.setIfInBounds_toArray, List.set_cons_zero, List.set_cons_succ]); refine wpAnyH_take (i := 4) (oi := ⟨some 40, _, _, _, _, _⟩) (v := ?_) rfl (by kernel_rfl) (by kernel_rfl) (by kernel_rfl) (fun _ _ _ h => h) (Or.inl ⟨by kernel_rfl, ?_⟩) hHeld ?_; rotate_left; (focus (intro wS hSw; (try dsimp only at hSw); go_simp; (try with_reducible rfl); done)); (try simp only [Act.put, List.setIfInBounds_toArray, List.set_cons_zero, List.set_cons_succ]))
        (refine wpAnyH_take (i := 2) (oi := ⟨some 38, _, _, _, _, _⟩) (v := .agg (F.map vu8).toArray) rfl (by kernel_rfl) (by kernel_rfl) (by kernel_rfl) (fun _ _ _ h => h) (yieldsIf_load_mid (by kernel_rfl) 44 _ rfl w3.heap.size 0 (by rfl) (F.map vu8) _ (fun _ h => ?_) Tryd.underlying44 rfl i1.out) hHeld ?_; (focus ((try dsimp only at h); first | exact h | exact h.1 | exact h.2); done); (try simp only [Act.put, List.setIfInBounds_toArray, List.set_cons_zero, List.set_cons_succ]))
        (refine wpAnyH_ready (rs := [5]) (by kernel_rfl) (by simp) ?_; refine AllReadyH.cons (o := ⟨some 41, _, _, _, _, _⟩) rfl (fun K hK => ?_) AllReadyH.nil; go_simp)
        refine (o1.out _ E7.ra E7.cs).mono ?_
        rintro e w8 ⟨rfl, hb8⟩
        have E8 := E7.ext hb8
        have F8 := F7.ext hb8
        have G8 := G7.ext hb8
        clear E7 F7 G7 hb8
        (refine hK.out _ _ (⟨At.of_blk F8, At.of_blk G8⟩) (fun hHeld => ?_); clear hK K; (try simp only [Act.put, List.setIfInBounds_toArray, List.set_cons_zero, List.set_cons_succ]))
        (refine wpAnyH_take (i := 6) (oi := ⟨some 42, _, _, _, _, _⟩) (v := ?_) rfl (by kernel_rfl) (by kernel_rfl) (by kernel_rfl) (fun _ _ _ h => h) (Or.inl ⟨by kernel_rfl, ?_⟩) hHeld ?_; rotate_left; (focus (intro wS hSw; (try dsimp only at hSw); go_simp; (try with_reducible rfl); done)); (try simp only [Act.put, List.setIfInBounds_toArray, List.set_cons_zero, List.set_cons_succ]); refine wpAnyH_take (i := 7) (oi := ⟨some 43, _, _, _, _, _⟩) (v := ?_) rfl (by kernel_rfl) (by kernel_rfl) (by kernel_rfl) (fun _ _ _ h => h) (Or.inl ⟨by kernel_rfl, ?_⟩) hHeld ?_; rotate_left; (focus (intro wS hSw; (try dsimp only at hSw); go_simp; (try with_reducible rfl); done)); (try simp only [Act.put, List.setIfInBounds_toArray, List.set_cons_zero, List.set_cons_succ]); refine wpAnyH_take (i := 9) (oi := ⟨some 45, _, _, _, _, _⟩) (v := ?_) rfl (by kernel_rfl) (by kernel_rfl) (by kernel_rfl) (fun _ _ _ h => h) (Or.inl ⟨by kernel_rfl, ?_⟩) hHeld ?_; rotate_left; (focus (intro wS hSw; (try dsimp only at hSw); go_simp; (try with_reducible rfl); done)); (try simp only [Act.put, List.setIfInBounds_toArray, List.set_cons_zero, List.set_cons_succ]); refine wpAnyH_take (i := 10) (oi := ⟨some 46, _, _, _, _, _⟩) (v := ?_) rfl (by kernel_rfl) (by kernel_rfl) (by kernel_rfl) (fun _ _ _ h => h) (Or.inl ⟨by kernel_rfl, ?_⟩) hHeld ?_; rotate_left; (focus (intro wS hSw; (try dsimp only at hSw); go_simp; (try with_reducible rfl); done)); (try simp only [Act.put, List.setIfInBounds_toArray, List.set_cons_zero, List.set_cons_succ]))
        (refine wpAnyH_take (i := 8) (oi := ⟨some 44, _, _, _, _, _⟩) (v := .agg (G.map vu8).toArray) rfl (by kernel_rfl) (by kernel_rfl) (by kernel_rfl) (fun _ _ _ h => h) (yieldsIf_load_mid (by kernel_rfl) 44 _ rfl w5.heap.size 0 (by rfl) (G.map vu8) _ (fun _ h => ?_) Tryd.underlying44 rfl j1.out) hHeld ?_; (focus ((try dsimp only at h); first | exact h | exact h.1 | exact h.2); done); (try simp only [Act.put, List.setIfInBounds_toArray, List.set_cons_zero, List.set_cons_succ]))
        (refine wpAnyH_ready (rs := [11]) (by kernel_rfl) (by simp) ?_; refine AllReadyH.cons (o := ⟨some 47, _, _, _, _, _⟩) rfl (fun K hK => ?_) AllReadyH.nil; go_simp)
        refine (o2.out _ E8.rb E8.cs).mono ?_
        rintro e w9 ⟨rfl, hb9⟩
        have E9 := E8.ext hb9
        have F9 := F8.ext hb9
        have G9 := G8.ext hb9
        clear E8 F8 G8 hb9
        (refine hK.out _ _ (⟨At.of_blk F9, At.of_blk G9⟩) (fun hHeld => ?_); clear hK K; (try simp only [Act.put, List.setIfInBounds_toArray, List.set_cons_zero, List.set_cons_succ]))
        (refine wpAnyH_take (i := 12) (oi := ⟨some 48, _, _, _, _, _⟩) (v := ?_) rfl (by kernel_rfl) (by kernel_rfl) (by kernel_rfl) (fun _ _ _ h => h) (Or.inl ⟨by kernel_rfl, ?_⟩) hHeld ?_; rotate_left; (focus (intro wS hSw; (try dsimp only at hSw); go_simp; (try with_reducible rfl); done)); (try simp only [Act.put, List.setIfInBounds_toArray, List.set_cons_zero, List.set_cons_succ]); refine wpAnyH_take (i := 13) (oi := ⟨some 49, _, _, _, _, _⟩) (v := ?_) rfl (by kernel_rfl) (by kernel_rfl) (by kernel_rfl) (fun _ _ _ h => h) (Or.inl ⟨by kernel_rfl, ?_⟩) hHeld ?_; rotate_left; (focus (intro wS hSw; (try dsimp only at hSw); go_simp; (try with_reducible rfl); done)); (try simp only [Act.put, List.setIfInBounds_toArray, List.set_cons_zero, List.set_cons_succ]); refine wpAnyH_take (i := 15) (oi := ⟨some 51, _, _, _, _, _⟩) (v := ?_) rfl (by kernel_rfl) (by kernel_rfl) (by kernel_rfl) (fun _ _ _ h => h) (Or.inl ⟨by kernel_rfl, ?_⟩) hHeld ?_; rotate_left; (focus (intro wS hSw; (try dsimp only at hSw); go_simp; (try with_reducible rfl); done)); (try simp only [Act.put, List.setIfInBounds_toArray, List.set_cons_zero, List.set_cons_succ]); refine wpAnyH_take (i := 16) (oi := ⟨some 52, _, _, _, _, _⟩) (v := ?_) rfl (by kernel_rfl) (by kernel_rfl) (by kernel_rfl) (fun _ _ _ h => h) (Or.inl ⟨by kernel_rfl, ?_⟩) hHeld ?_; rotate_left; (focus (intro wS hSw; (try dsimp only at hSw); go_simp; (try with_reducible rfl); done)); (try simp only [Act.put, List.setIfInBounds_toArray, List.set_cons_zero, List.set_cons_succ]))
        (refine wpAnyH_take (i := 14) (oi := ⟨some 50, _, _, _, _, _⟩) (v := .agg (F.map vu8).toArray) rfl (by kernel_rfl) (by kernel_rfl) (by kernel_rfl) (fun _ _ _ h => h) (yieldsIf_load_mid (by kernel_rfl) 44 _ rfl w3.heap.size 0 (by rfl) (F.map vu8) _ (fun _ h => ?_) Tryd.underlying44 rfl i1.out) hHeld ?_; (focus ((try dsimp only at h); first | exact h | exact h.1 | exact h.2); done); (try simp only [Act.put, List.setIfInBounds_toArray, List.set_cons_zero, List.set_cons_succ]))
        (refine wpAnyH_take (i := 18) (oi := ⟨some 54, _, _, _, _, _⟩) (v := .agg (F.map vu8).toArray) rfl (by kernel_rfl) (by kernel_rfl) (by kernel_rfl) (fun _ _ _ h => h) (yieldsIf_load_mid (by kernel_rfl) 44 _ rfl w3.heap.size 0 (by rfl) (F.map vu8) _ (fun _ h => ?_) Tryd.underlying44 rfl i1.out) hHeld ?_; (focus ((try dsimp only at h); first | exact h | exact h.1 | exact h.2); done); (try simp only [Act.put, List.setIfInBounds_toArray, List.set_cons_zero, List.set_cons_succ]))
        (refine wpAnyH_take (i := 19) (oi := ⟨some 55, _, _, _, _, _⟩) (v := .agg (G.map vu8).toArray) rfl (by kernel_rfl) (by kernel_rfl) (by kernel_rfl) (fun _ _ _ h => h) (yieldsIf_load_mid (by kernel_rfl) 44 _ rfl w5.heap.size 0 (by rfl) (G.map vu8) _ (fun _ h => ?_) Tryd.underlying44 rfl j1.out) hHeld ?_; (focus ((try dsimp only at h); first | exact h | exact h.1 | exact h.2); done); (try simp only [Act.put, List.setIfInBounds_toArray, List.set_cons_zero, List.set_cons_succ]))
        (refine wpAnyH_take (i := 20) (oi := ⟨some 56, _, _, _, _, _⟩) (v := ?_) rfl (by kernel_rfl) (by kernel_rfl) (by kernel_rfl) (fun _ _ _ h => h) (Or.inl ⟨by kernel_rfl, ?_⟩) hHeld ?_; rotate_left; (focus (intro wS hSw; (try dsimp only at hSw); go_simp; (try with_reducible rfl); done)); (try simp only [Act.put, List.setIfInBounds_toArray, List.set_cons_zero, List.set_cons_succ]))
        (refine wpAnyH_ready (rs := [17]) (by kernel_rfl) (by simp) ?_; refine AllReadyH.cons (o := ⟨some 53, _, _, _, _, _⟩) rfl (fun K hK => ?_) AllReadyH.nil; go_simp)
        refine (o3.out _ E9.rb E9.cs).mono ?_
        rintro e w10 ⟨rfl, hb10⟩
        have E10 := E9.ext hb10
        have F10 := F9.ext hb10
        have G10 := G9.ext hb10
        clear E9 F9 G9 hb10
        (refine hK.out _ _ (⟨At.of_blk F10, At.of_blk G10⟩) (fun hHeld => ?_); clear hK K; (try simp only [Act.put, List.setIfInBounds_toArray, List.set_cons_zero, List.set_cons_succ]))
        (refine wpAnyH_take (i := 21) (oi := ⟨some 57, _, _, _, _, _⟩) (v := ?_) rfl (by kernel_rfl) (by kernel_rfl) (by kernel_rfl) (fun _ _ _ h => h) (Or.inl ⟨by kernel_rfl, ?_⟩) hHeld ?_; rotate_left; (focus (intro wS hSw; (try dsimp only at hSw); go_simp; (try with_reducible rfl); done)); (try simp only [Act.put, List.setIfInBounds_toArray, List.set_cons_zero, List.set_cons_succ]); refine wpAnyH_take (i := 22) (oi := ⟨some 58, _, _, _, _, _⟩) (v := ?_) rfl (by kernel_rfl) (by kernel_rfl) (by kernel_rfl) (fun _ _ _ h => h) (Or.inl ⟨by kernel_rfl, ?_⟩) hHeld ?_; rotate_left; (focus (intro wS hSw; (try dsimp only at hSw); go_simp; (try with_reducible rfl); done)); (try simp only [Act.put, List.setIfInBounds_toArray, List.set_cons_zero, List.set_cons_succ]); refine wpAnyH_take (i := 23) (oi := ⟨some 59, _, _, _, _, _⟩) (v := ?_) rfl (by kernel_rfl) (by kernel_rfl) (by kernel_rfl) (fun _ _ _ h => h) (Or.inl ⟨by kernel_rfl, ?_⟩) hHeld ?_; rotate_left; (focus (intro wS hSw; (try dsimp only at hSw); go_simp; (try with_reducible rfl); done)); (try simp only [Act.put, List.setIfInBounds_toArray, List.set_cons_zero, List.set_cons_succ]); refine wpAnyH_take (i := 25) (oi := ⟨some 61, _, _, _, _, _⟩) (v := ?_) rfl (by kernel_rfl) (by kernel_rfl) (by kernel_rfl) (fun _ _ _ h => h) (Or.inl ⟨by kernel_rfl, ?_⟩) hHeld ?_; rotate_left; (focus (intro wS hSw; (try dsimp only at hSw); go_simp; (try with_reducible rfl); done)); (try simp only [Act.put, List.setIfInBounds_toArray, List.set_cons_zero, List.set_cons_succ]); refine wpAnyH_take (i := 26) (oi := ⟨some 62, _, _, _, _, _⟩) (v := ?_) rfl (by kernel_rfl) (by kernel_rfl) (by kernel_rfl) (fun _ _ _ h => h) (Or.inl ⟨by kernel_rfl, ?_⟩) hHeld ?_; rotate_left; (focus (intro wS hSw; (try dsimp only at hSw); go_simp; (try with_reducible rfl); done)); (try simp only [Act.put, List.setIfInBounds_toArray, List.set_cons_zero, List.set_cons_succ]))
        (refine wpAnyH_take (i := 24) (oi := ⟨some 60, _, _, _, _, _⟩) (v := .agg (G.map vu8).toArray) rfl (by kernel_rfl) (by kernel_rfl) (by kernel_rfl) (fun _ _ _ h => h) (yieldsIf_load_mid (by kernel_rfl) 44 _ rfl w5.heap.size 0 (by rfl) (G.map vu8) _ (fun _ h => ?_) Tryd.underlying44 rfl j1.out) hHeld ?_; (focus ((try dsimp only at h); first | exact h | exact h.1 | exact h.2); done); (try simp only [Act.put, List.setIfInBounds_toArray, List.set_cons_zero, List.set_cons_succ]))
        (refine wpAnyH_take (i := 28) (oi := ⟨some 64, _, _, _, _, _⟩) (v := .agg (F.map vu8).toArray) rfl (by kernel_rfl) (by kernel_rfl) (by kernel_rfl) (fun _ _ _ h => h) (yieldsIf_load_mid (by kernel_rfl) 44 _ rfl w3.heap.size 0 (by rfl) (F.map vu8) _ (fun _ h => ?_) Tryd.underlying44 rfl i1.out) hHeld ?_; (focus ((try dsimp only at h); first | exact h | exact h.1 | exact h.2); done); (try simp only [Act.put, List.setIfInBounds_toArray, List.set_cons_zero, List.set_cons_succ]))
        (refine wpAnyH_take (i := 29) (oi := ⟨some 65, _, _, _, _, _⟩) (v := .agg (G.map vu8).toArray) rfl (by kernel_rfl) (by kernel_rfl) (by kernel_rfl) (fun _ _ _ h => h) (yieldsIf_load_mid (by kernel_rfl) 44 _ rfl w5.heap.size 0 (by rfl) (G.map vu8) _ (fun _ h => ?_) Tryd.underlying44 rfl j1.out) hHeld ?_; (focus ((try dsimp only at h); first | exact h | exact h.1 | exact h.2); done); (try simp only [Act.put, List.setIfInBounds_toArray, List.set_cons_zero, List.set_cons_succ]))
        (refine wpAnyH_take (i := 30) (oi := ⟨some 66, _, _, _, _, _⟩) (v := ?_) rfl (by kernel_rfl) (by kernel_rfl) (by kernel_rfl) (fun _ _ _ h => h) (Or.inl ⟨by kernel_rfl, ?_⟩) hHeld ?_; rotate_left; (focus (intro wS hSw; (try dsimp only at hSw); go_simp; (try with_reducible rfl); done)); (try simp only [Act.put, List.setIfInBounds_toArray, List.set_cons_zero, List.set_cons_succ]))
        (refine wpAnyH_ready (rs := [27]) (by kernel_rfl) (by simp) ?_; refine AllReadyH.cons (o := ⟨some 63, _, _, _, _, _⟩) rfl (fun K hK => ?_) AllReadyH.nil; go_simp)
        refine (o4.out _ E10.ra E10.cs).mono ?_
        rintro e w11 ⟨rfl, hb11⟩
        have E11 := E10.ext hb11
        have F11 := F10.ext hb11
        have G11 := G10.ext hb11
        clear E10 F10 G10 hb11
        (refine hK.out _ _ (⟨At.of_blk F11, At.of_blk G11⟩) (fun hHeld => ?_); clear hK K; (try simp only [Act.put, List.setIfInBounds_toArray, List.set_cons_zero, List.set_cons_succ]))
        (refine wpAnyH_take (i := 31) (oi := ⟨some 67, _, _, _, _, _⟩) (v := ?_) rfl (by kernel_rfl) (by kernel_rfl) (by kernel_rfl) (fun _ _ _ h => h) (Or.inl ⟨by kernel_rfl, ?_⟩) hHeld ?_; rotate_left; (focus (intro wS hSw; (try dsimp only at hSw); go_simp; (try with_reducible rfl); done)); (try simp only [Act.put, List.setIfInBounds_toArray, List.set_cons_zero, List.set_cons_succ]); refine wpAnyH_take (i := 32) (oi := ⟨some 68, _, _, _, _, _⟩) (v := ?_) rfl (by kernel_rfl) (by kernel_rfl) (by kernel_rfl) (fun _ _ _ h => h) (Or.inl ⟨by kernel_rfl, ?_⟩) hHeld ?_; rotate_left; (focus (intro wS hSw; (try dsimp only at hSw); go_simp; (try with_reducible rfl); done)); (try simp only [Act.put, List.setIfInBounds_toArray, List.set_cons_zero, List.set_cons_succ]); refine wpAnyH_take (i := 33) (oi := ⟨some 8, _, _, _, _, _⟩) (v := ?_) rfl (by kernel_rfl) (by kernel_rfl) (by kernel_rfl) (fun _ _ _ h => h) (Or.inl ⟨by kernel_rfl, ?_⟩) hHeld ?_; rotate_left; (focus (intro wS hSw; (try dsimp only at hSw); go_simp; (try with_reducible rfl); done)); (try simp only [Act.put, List.setIfInBounds_toArray, List.set_cons_zero, List.set_cons_succ]))
        (refine wpAnyH_done (by kernel_rfl) ?_ _)
        go_wp2_with fail
        go_ret
        exact ⟨rfl, E11.lt⟩)
end Go.Proofs.YtbccfgeepdmegaaDoor
