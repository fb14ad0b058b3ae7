/- Walks: the reference's hash: words. -/
import Derived.Test.YtbccfgeepdmegaaDoorRhA
set_option linter.unusedVariables false
set_option linter.unusedSimpArgs false
set_option linter.unnecessarySimpa false
namespace Go.Proofs.YtbccfgeepdmegaaDoor
open Go Go.RowKit Mem
theorem or4 (a b c d : Nat) : (((a <<< 8 ||| b) <<< 8 ||| c) <<< 8 ||| d) = ((a <<< 24 ||| b <<< 16) ||| c <<< 8) ||| d := by
  rw [Nat.shiftLeft_or_distrib, Nat.shiftLeft_or_distrib, Nat.shiftLeft_or_distrib, ← Nat.shiftLeft_add, ← Nat.shiftLeft_add, ← Nat.shiftLeft_add]
theorem word4 (a b c d : Nat) (ha : a < 256) (hb : b < 256) (hc : c < 256) :
    (((((((0 * 256) % 4294967296 ||| a) * 256) % 4294967296 ||| b) * 256) % 4294967296 ||| c) * 256) % 4294967296 ||| d = ((a <<< 24 ||| b <<< 16) ||| c <<< 8) ||| d := by
  have s8 : ∀ x : Nat, x < 2 ^ 24 → x * 256 % 4294967296 = x <<< 8 := fun x hx => by
    rw [Nat.shiftLeft_eq, Nat.mod_eq_of_lt (by omega)]
  have e0 : ((0 * 256) % 4294967296 ||| a) = a := by simp
  have l1 : a <<< 8 < 2 ^ 16 := by rw [Nat.shiftLeft_eq]; omega
  have l2 : (a <<< 8 ||| b) < 2 ^ 16 := Nat.or_lt_two_pow l1 (by omega)
  have l3 : (a <<< 8 ||| b) <<< 8 < 2 ^ 24 := by rw [Nat.shiftLeft_eq]; omega
  have l4 : ((a <<< 8 ||| b) <<< 8 ||| c) < 2 ^ 24 := Nat.or_lt_two_pow l3 (by omega)
  rw [e0, s8 a (by omega), s8 (a <<< 8 ||| b) (by omega), s8 ((a <<< 8 ||| b) <<< 8 ||| c) l4]
  exact or4 a b c d
theorem word_walk (m : List Nat) (hm : ∀ x ∈ m, x < 256) (t : Nat) (ht : t < 16) :
    bits .or .u32 (bits .or .u32 (bits .or .u32 (((m.getD (4 * t + 0) 0 : Nat) : Int) % 4294967296 * 16777216 % 4294967296) (((m.getD (4 * t + 1) 0 : Nat) : Int) % 4294967296 * 65536 % 4294967296)) (((m.getD (4 * t + 2) 0 : Nat) : Int) % 4294967296 * 256 % 4294967296)) (((m.getD (4 * t + 3) 0 : Nat) : Int) % 4294967296) = ((Sha.W m t : Nat) : Int) := by
  have hlt : ∀ i, m.getD i 0 < 256 := fun i => by
    rw [List.getD_eq_getElem?_getD]
    cases h : m[i]? with
    | none => decide
    | some x => exact hm x (List.mem_of_getElem? h)
  rw [Sha.W_word m t ht, Sha.word_eq, Sha.wpart_succ, Sha.wpart_succ, Sha.wpart_succ, Sha.wpart_succ, Sha.wpart_zero]
  have h0 := hlt (4 * t + 0)
  have h1 := hlt (4 * t + 1)
  have h2 := hlt (4 * t + 2)
  have h3 := hlt (4 * t + 3)
  generalize m.getD (4 * t + 0) 0 = a at *
  generalize m.getD (4 * t + 1) 0 = b at *
  generalize m.getD (4 * t + 2) 0 = c at *
  generalize m.getD (4 * t + 3) 0 = d at *
  rw [word4 a b c d h0 h1 h2]
  have f0 : ((a : Int) % (4294967296 : Int) * (16777216 : Int) % (4294967296 : Int)) = (((a <<< 24 : Nat)) : Int) := by rw [Nat.shiftLeft_eq]; omega
  have f1 : ((b : Int) % (4294967296 : Int) * (65536 : Int) % (4294967296 : Int)) = (((b <<< 16 : Nat)) : Int) := by rw [Nat.shiftLeft_eq]; omega
  have f2 : ((c : Int) % (4294967296 : Int) * (256 : Int) % (4294967296 : Int)) = (((c <<< 8 : Nat)) : Int) := by rw [Nat.shiftLeft_eq]; omega
  have f3 : ((d : Int) % (4294967296 : Int)) = (d : Int) := by omega
  have k0 : a <<< 24 < 4294967296 := by rw [Nat.shiftLeft_eq]; omega
  have k1 : b <<< 16 < 4294967296 := by rw [Nat.shiftLeft_eq]; omega
  have k2 : c <<< 8 < 4294967296 := by rw [Nat.shiftLeft_eq]; omega
  have k01 : (a <<< 24 ||| b <<< 16) < 4294967296 := Nat.or_lt_two_pow (n := 32) k0 k1
  have k012 : (a <<< 24 ||| b <<< 16 ||| c <<< 8) < 4294967296 := Nat.or_lt_two_pow (n := 32) k01 k2
  rw [f0, f1, f2, f3, or32 _ _ k0 k1, or32 _ _ k01 k2, or32 _ _ k012 (by omega)]
set_option maxRecDepth 100000 in
set_option maxHeartbeats 4000000 in
theorem words_any (b off cap : Nat) (m : List Nat) (w : World) (hl : m.length = 64) (hc : 64 ≤ cap) (hcm : cap ≤ 9223372036854775807) (hm : ∀ x ∈ m, x < 256) (hat : At w b off (m.map vu8)) :
    Calls Tryd.prog 68 #[.slice (some ⟨b, off, none⟩) 64 cap] w fun e w' => e = .returned (.agg ((Sha.sched m).map vu32).toArray) ∧ Below w.heap.size w w' := by
  go_enter Tryd.func68, Tryd.ntmps68
  go_wp2_with fail
  go_loopw [4] (fun i wr => ∃ t : Nat, t ≤ 16 ∧ i = .int .i64 t ∧ Blk wr w.heap.size 104 (List.replicate 64 (.int .u32 0)) ∧ Blk wr (w.heap.size + 1) 104 (upto m t) ∧ Below w.heap.size w wr) (fun i _ => 16 - (intOf i).toNat)
  case atStart =>
    refine ⟨0, by omega, rfl, ?_, ?_, ?_⟩
    · exact (Blk.new w _ _).alloc _
    · rw [upto_zero]; have := Blk.new (w.alloc (.cells (List.replicate 64 (.int .u32 0)).toArray 104)) (List.replicate 64 (.int .u32 0)) 104; simpa using this
    · exact ((Below.refl _ _).alloc (Nat.le_refl _) _).alloc (by simp) _
  case round =>
    obtain ⟨t, ht, rfl, h0, h1, hb⟩ := hrel
    by_cases hlt : t < 16
    · have hbyte : ∀ j, j < 4 → w.cell? ⟨b, off + 4 * t + j, none⟩ = some (.int .u8 (m.getD (4 * t + j) 0 : Nat)) := by
        intro j hj
        rw [Nat.add_assoc]
        refine hat _ _ ?_
        rw [List.getElem?_map, List.getD_eq_getElem?_getD, List.getElem?_eq_getElem (by omega)]; rfl
      have hbl : b < w.heap.size := block_lt_of_cell (hbyte 0 (by omega))
      have hq : ∀ j, j < 4 → wr.cell? ⟨b, off + 4 * t + j, none⟩ = some (.int .u8 (m.getD (4 * t + j) 0 : Nat)) := fun j hj => by
        rw [hb.cell (p := ⟨b, off + 4 * t + j, none⟩) hbl]; exact hbyte j hj
      have q0 := hq 0 (by omega)
      have q1 := hq 1 (by omega)
      have q2 := hq 2 (by omega)
      have q3 := hq 3 (by omega)
      obtain ⟨b0, hb0⟩ : ∃ x, x = m.getD (4 * t + 0) 0 := ⟨_, rfl⟩
      obtain ⟨b1, hb1⟩ : ∃ x, x = m.getD (4 * t + 1) 0 := ⟨_, rfl⟩
      obtain ⟨b2, hb2⟩ : ∃ x, x = m.getD (4 * t + 2) 0 := ⟨_, rfl⟩
      obtain ⟨b3, hb3⟩ : ∃ x, x = m.getD (4 * t + 3) 0 := ⟨_, rfl⟩
      rw [← hb0] at q0
      rw [← hb1] at q1
      rw [← hb2] at q2
      rw [← hb3] at q3
      rw [Nat.add_zero] at q0
      have z0 : (0 : Int) ≤ 4 * (t : Int) := by omega
      have z1 : 4 * (t : Int) + 3 < 64 := by omega
      have y1 : 4 * (t : Int) < 64 := by omega
      have y0 : (t : Int) < 64 := by omega
      have y9 : (0 : Int) ≤ (t : Int) := by omega
      have y2 : 4 * (t : Int) + 1 < 64 := by omega
      have y3 : 4 * (t : Int) + 2 < 64 := by omega
      have y4 : (0 : Int) ≤ 4 * (t : Int) + 1 := by omega
      have y5 : (0 : Int) ≤ 4 * (t : Int) + 2 := by omega
      have y6 : (0 : Int) ≤ 4 * (t : Int) + 3 := by omega
      have n0 : (4 * (t : Int)).toNat = 4 * t := by omega
      have n1 : (4 * (t : Int) + 1).toNat = 4 * t + 1 := by omega
      have n2 : (4 * (t : Int) + 2).toNat = 4 * t + 2 := by omega
      have n3 : (4 * (t : Int) + 3).toNat = 4 * t + 3 := by omega
      have r1 : wr.cell? ⟨b, off + (4 * t + 1), none⟩ = some (.int .u8 b1) := q1
      have r2 : wr.cell? ⟨b, off + (4 * t + 2), none⟩ = some (.int .u8 b2) := q2
      have r3 : wr.cell? ⟨b, off + (4 * t + 3), none⟩ = some (.int .u8 b3) := q3
      have z2 := i64_id (4 * (t : Int)) (by omega)
      have z3 := i64_id (4 * (t : Int) + 1) (by omega)
      have z4 := i64_id (4 * (t : Int) + 2) (by omega)
      have z5 := i64_id (4 * (t : Int) + 3) (by omega)
      have hww := word_walk m hm t hlt
      rw [← hb0, ← hb1, ← hb2, ← hb3] at hww
      have hset := hide (upto_set m t (by omega))
      replace hww := hide hww
      have hct := h1.cell (upto_zero_get m t t (Nat.le_refl _) (by omega))
      have hf := h1.frozen t
      replace hb0 := hide hb0
      replace hb1 := hide hb1
      replace hb2 := hide hb2
      replace hb3 := hide hb3
      replace hm := hide hm
      replace hl := hide hl
      replace hat := hide hat
      replace hq := hide hq
      replace hbyte := hide hbyte
      go_wp2_with fail
      refine wp_region_tail 35 (by kernel_rfl) (by kernel_rfl) ?_
      simp only [List.take_succ_cons, List.take_zero, List.drop_succ_cons, List.drop_zero]
      repeat still_step
      try refine wpStill_nil ?_
      go_wp2_with fail
      rw [hww.out]
      refine ⟨⟨t + 1, by omega, by go_num, (h0.set_ne (by omega) _ _).drew, ?_, ((hb.setCell (p := ⟨w.heap.size + 1, t, none⟩) (by simp) _)).drew⟩, by simp [intOf]; omega⟩
      rw [← hset.out]
      exact (h1.set _ _).drew
    · have e16 : t = 16 := by omega
      have n16 : ¬ (t : Int) < 16 := by omega
      rw [e16] at h1
      replace e16 := hide e16
      clear hlt ht
      go_wp2_with fail
      obtain ⟨wo, rfl⟩ : ∃ wo : World, wo = wr := ⟨_, rfl⟩
      go_loopw [5] (fun i wr => ∃ t : Nat, 16 ≤ t ∧ t ≤ 64 ∧ i = .int .i64 t ∧ Blk wr w.heap.size 104 (List.replicate 64 (.int .u32 0)) ∧ Blk wr (w.heap.size + 1) 104 (upto m t) ∧ Below w.heap.size w wr) (fun i _ => 64 - (intOf i).toNat)
      case atStart => exact ⟨16, by omega, by omega, rfl, h0, h1, hb⟩
      case round =>
        clear h0 h1 hb
        obtain ⟨t, ht16, ht, rfl, h0, h1, hb⟩ := hrel
        by_cases hlt2 : t < 64
        · have c15 := h1.cell (upto_get m t (t - 15) (by omega) (by omega))
          have hp := Sha.W_lt m hm (t - 15)
          have hq := Sha.W_lt m hm (t - 2)
          have hst := Sha.W_step m t (by omega) hlt2
          have hset := upto_set m t hlt2
          have x1 := xor32 _ _ (Sha.rotr_lt _ 7 hp) (Sha.rotr_lt _ 18 hp)
          have x2 := xs0 _ hp
          have x3 := xor32 _ _ (Sha.rotr_lt _ 17 hq) (Sha.rotr_lt _ 19 hq)
          have x4 := xs1 _ hq
          replace hset := hide hset
          replace hst := hide hst
          replace hat := hide hat
          replace hm := hide hm
          replace hl := hide hl
          have a1 := i64_id ((t : Int) - 15) (by omega)
          have a2 : (t : Int) - 15 < 64 := by omega
          have a3 : (0 : Int) ≤ (t : Int) - 15 := by omega
          have a4 : ((t : Int) - 15).toNat = t - 15 := by omega
          have a5 : (15 : Int) ≤ (t : Int) := by omega
          have d1 := i64_id ((t : Int) - 2) (by omega)
          have d2 : (t : Int) - 2 < 64 := by omega
          have d3 : (0 : Int) ≤ (t : Int) - 2 := by omega
          have d4 : ((t : Int) - 2).toNat = t - 2 := by omega
          have d5 : (2 : Int) ≤ (t : Int) := by omega
          go_wp2_with fail
          refine wp_region_held_drew (S := (fun w' => w'.cell? ⟨w.heap.size + 1, t - 15, none⟩ = some (.int .u32 (Sha.W m (t - 15) : Nat)))) (by kernel_rfl) (c15) (fun hHeld => ?_)
          (refine wpAnyH_take (i := 0) (oi := ⟨some 51, _, _, _, _, _⟩) (v := ?_) rfl (by kernel_rfl) (by kernel_rfl) (by kernel_rfl) (fun _ _ _ h => h) (Or.inl ⟨by kernel_rfl, ?_⟩) hHeld ?_; rotate_left; (focus (intro wS hSw; (try dsimp only at hSw); go_simp; (try with_reducible rfl); done)); (try simp only [Act.put, List.setIfInBounds_toArray, List.set_cons_zero, List.set_cons_succ]); refine wpAnyH_take (i := 1) (oi := ⟨some 52, _, _, _, _, _⟩) (v := ?_) rfl (by kernel_rfl) (by kernel_rfl) (by kernel_rfl) (fun _ _ _ h => h) (Or.inl ⟨by kernel_rfl, ?_⟩) hHeld ?_; rotate_left; (focus (intro wS hSw; (try dsimp only at hSw); go_simp; (try with_reducible rfl); done)); (try simp only [Act.put, List.setIfInBounds_toArray, List.set_cons_zero, List.set_cons_succ]); refine wpAnyH_take (i := 2) (oi := ⟨some 53, _, _, _, _, _⟩) (v := ?_) rfl (by kernel_rfl) (by kernel_rfl) (by kernel_rfl) (fun _ _ _ h => h) (Or.inl ⟨by kernel_rfl, ?_⟩) hHeld ?_; rotate_left; (focus (intro wS hSw; (try dsimp only at hSw); go_simp; (try with_reducible rfl); done)); (try simp only [Act.put, List.setIfInBounds_toArray, List.set_cons_zero, List.set_cons_succ]); refine wpAnyH_take (i := 3) (oi := ⟨some 54, _, _, _, _, _⟩) (v := ?_) rfl (by kernel_rfl) (by kernel_rfl) (by kernel_rfl) (fun _ _ _ h => h) (Or.inl ⟨by kernel_rfl, ?_⟩) hHeld ?_; rotate_left; (focus (intro wS hSw; (try dsimp only at hSw); go_simp; (try with_reducible rfl); done)); (try simp only [Act.put, List.setIfInBounds_toArray, List.set_cons_zero, List.set_cons_succ]); refine wpAnyH_take (i := 5) (oi := ⟨some 56, _, _, _, _, _⟩) (v := ?_) rfl (by kernel_rfl) (by kernel_rfl) (by kernel_rfl) (fun _ _ _ h => h) (Or.inl ⟨by kernel_rfl, ?_⟩) hHeld ?_; rotate_left; (focus (intro wS hSw; (try dsimp only at hSw); go_simp; (try with_reducible rfl); done)); (try simp only [Act.put, List.setIfInBounds_toArray, List.set_cons_zero, List.set_cons_succ]); refine wpAnyH_take (i := 6) (oi := ⟨some 57, _, _, _, _, _⟩) (v := ?_) rfl (by kernel_rfl) (by kernel_rfl) (by kernel_rfl) (fun _ _ _ h => h) (Or.inl ⟨by kernel_rfl, ?_⟩) hHeld ?_; rotate_left; (focus (intro wS hSw; (try dsimp only at hSw); go_simp; (try with_reducible rfl); done)); (try simp only [Act.put, List.setIfInBounds_toArray, List.set_cons_zero, List.set_cons_succ]); refine wpAnyH_take (i := 7) (oi := ⟨some 58, _, _, _, _, _⟩) (v := ?_) rfl (by kernel_rfl) (by kernel_rfl) (by kernel_rfl) (fun _ _ _ h => h) (Or.inl ⟨by kernel_rfl, ?_⟩) hHeld ?_; rotate_left; (focus (intro wS hSw; (try dsimp only at hSw); go_simp; (try with_reducible rfl); done)); (try simp only [Act.put, List.setIfInBounds_toArray, List.set_cons_zero, List.set_cons_succ]); refine wpAnyH_take (i := 8) (oi := ⟨some 59, _, _, _, _, _⟩) (v := ?_) rfl (by kernel_rfl) (by kernel_rfl) (by kernel_rfl) (fun _ _ _ h => h) (Or.inl ⟨by kernel_rfl, ?_⟩) hHeld ?_; rotate_left; (focus (intro wS hSw; (try dsimp only at hSw); go_simp; (try with_reducible rfl); done)); (try simp only [Act.put, List.setIfInBounds_toArray, List.set_cons_zero, List.set_cons_succ]); refine wpAnyH_take (i := 11) (oi := ⟨some 62, _, _, _, _, _⟩) (v := ?_) rfl (by kernel_rfl) (by kernel_rfl) (by kernel_rfl) (fun _ _ _ h => h) (Or.inl ⟨by kernel_rfl, ?_⟩) hHeld ?_; rotate_left; (focus (intro wS hSw; (try dsimp only at hSw); go_simp; (try with_reducible rfl); done)); (try simp only [Act.put, List.setIfInBounds_toArray, List.set_cons_zero, List.set_cons_succ]); refine wpAnyH_take (i := 12) (oi := ⟨some 63, _, _, _, _, _⟩) (v := ?_) rfl (by kernel_rfl) (by kernel_rfl) (by kernel_rfl) (fun _ _ _ h => h) (Or.inl ⟨by kernel_rfl, ?_⟩) hHeld ?_; rotate_left; (focus (intro wS hSw; (try dsimp only at hSw); go_simp; (try with_reducible rfl); done)); (try simp only [Act.put, List.setIfInBounds_toArray, List.set_cons_zero, List.set_cons_succ]); refine wpAnyH_take (i := 13) (oi := ⟨some 64, _, _, _, _, _⟩) (v := ?_) rfl (by kernel_rfl) (by kernel_rfl) (by kernel_rfl) (fun _ _ _ h => h) (Or.inl ⟨by kernel_rfl, ?_⟩) hHeld ?_; rotate_left; (focus (intro wS hSw; (try dsimp only at hSw); go_simp; (try with_reducible rfl); done)); (try simp only [Act.put, List.setIfInBounds_toArray, List.set_cons_zero, List.set_cons_succ]); refine wpAnyH_take (i := 14) (oi := ⟨some 65, _, _, _, _, _⟩) (v := ?_) rfl (by kernel_rfl) (by kernel_rfl) (by kernel_rfl) (fun _ _ _ h => h) (Or.inl ⟨by kernel_rfl, ?_⟩) hHeld ?_; rotate_left; (focus (intro wS hSw; (try dsimp only at hSw); go_simp; (try with_reducible rfl); done)); (try simp only [Act.put, List.setIfInBounds_toArray, List.set_cons_zero, List.set_cons_succ]); refine wpAnyH_take (i := 15) (oi := ⟨some 66, _, _, _, _, _⟩) (v := ?_) rfl (by kernel_rfl) (by kernel_rfl) (by kernel_rfl) (fun _ _ _ h => h) (Or.inl ⟨by kernel_rfl, ?_⟩) hHeld ?_; rotate_left; (focus (intro wS hSw; (try dsimp only at hSw); go_simp; (try with_reducible rfl); done)); (try simp only [Act.put, List.setIfInBounds_toArray, List.set_cons_zero, List.set_cons_succ]))
          (refine wpAnyH_ready (rs := [4]) (by kernel_rfl) (by simp) ?_; refine AllReadyH.cons (o := ⟨some 55, _, _, _, _, _⟩) rfl (fun K hK => ?_) AllReadyH.nil; go_simp)
          refine (rrotr_any _ 7 _ hp (by decide) (by decide)).mono ?_
          rintro e w3 ⟨rfl, hb3⟩
          have k1 := h1.drew.ext hb3
          have k0 := h0.drew.ext hb3
          have kb := ext_trans (ext_drew hb) hb3
          clear hb3
          (refine hK.out _ _ (k1.cell (upto_get m t (t - 15) (by omega) (by omega))) (fun hHeld => ?_); clear hK K; (try simp only [Act.put, List.setIfInBounds_toArray, List.set_cons_zero, List.set_cons_succ]))
          (refine wpAnyH_ready (rs := [9]) (by kernel_rfl) (by simp) ?_; refine AllReadyH.cons (o := ⟨some 60, _, _, _, _, _⟩) rfl (fun K hK => ?_) AllReadyH.nil; go_simp)
          refine (rrotr_any _ 18 _ hp (by decide) (by decide)).mono ?_
          rintro e w4 ⟨rfl, hb4⟩
          have l1 := k1.ext hb4
          have l0 := k0.ext hb4
          have lb := ext_trans kb hb4
          clear hb4 k1 k0 kb h0 h1 hb c15
          (refine hK.out _ _ (l1.cell (upto_get m t (t - 15) (by omega) (by omega))) (fun hHeld => ?_); clear hK K; (try simp only [Act.put, List.setIfInBounds_toArray, List.set_cons_zero, List.set_cons_succ]))
          (refine wpAnyH_take (i := 10) (oi := ⟨some 61, _, _, _, _, _⟩) (v := ?_) rfl (by kernel_rfl) (by kernel_rfl) (by kernel_rfl) (fun _ _ _ h => h) (Or.inl ⟨by kernel_rfl, ?_⟩) hHeld ?_; rotate_left; (focus (intro wS hSw; (try dsimp only at hSw); go_simp; (try with_reducible rfl); done)); (try simp only [Act.put, List.setIfInBounds_toArray, List.set_cons_zero, List.set_cons_succ]); refine wpAnyH_take (i := 16) (oi := ⟨some 67, _, _, _, _, _⟩) (v := ?_) rfl (by kernel_rfl) (by kernel_rfl) (by kernel_rfl) (fun _ _ _ h => h) (Or.inl ⟨by kernel_rfl, ?_⟩) hHeld ?_; rotate_left; (focus (intro wS hSw; (try dsimp only at hSw); go_simp; (try with_reducible rfl); done)); (try simp only [Act.put, List.setIfInBounds_toArray, List.set_cons_zero, List.set_cons_succ]); refine wpAnyH_take (i := 17) (oi := ⟨some 6, _, _, _, _, _⟩) (v := ?_) rfl (by kernel_rfl) (by kernel_rfl) (by kernel_rfl) (fun _ _ _ h => h) (Or.inl ⟨by kernel_rfl, ?_⟩) hHeld ?_; rotate_left; (focus (intro wS hSw; (try dsimp only at hSw); go_simp; (try with_reducible rfl); done)); (try simp only [Act.put, List.setIfInBounds_toArray, List.set_cons_zero, List.set_cons_succ]))
          (refine wpAnyH_done (by kernel_rfl) ?_ _)
          go_wp2_with fail
          have c2 := l1.cell (upto_get m t (t - 2) (by omega) (by omega))
          refine wp_region_held_drew (S := (fun w' => w'.cell? ⟨w.heap.size + 1, t - 2, none⟩ = some (.int .u32 (Sha.W m (t - 2) : Nat)))) (by kernel_rfl) (c2) (fun hHeld => ?_)
          (refine wpAnyH_take (i := 0) (oi := ⟨some 68, _, _, _, _, _⟩) (v := ?_) rfl (by kernel_rfl) (by kernel_rfl) (by kernel_rfl) (fun _ _ _ h => h) (Or.inl ⟨by kernel_rfl, ?_⟩) hHeld ?_; rotate_left; (focus (intro wS hSw; (try dsimp only at hSw); go_simp; (try with_reducible rfl); done)); (try simp only [Act.put, List.setIfInBounds_toArray, List.set_cons_zero, List.set_cons_succ]); refine wpAnyH_take (i := 1) (oi := ⟨some 69, _, _, _, _, _⟩) (v := ?_) rfl (by kernel_rfl) (by kernel_rfl) (by kernel_rfl) (fun _ _ _ h => h) (Or.inl ⟨by kernel_rfl, ?_⟩) hHeld ?_; rotate_left; (focus (intro wS hSw; (try dsimp only at hSw); go_simp; (try with_reducible rfl); done)); (try simp only [Act.put, List.setIfInBounds_toArray, List.set_cons_zero, List.set_cons_succ]); refine wpAnyH_take (i := 2) (oi := ⟨some 70, _, _, _, _, _⟩) (v := ?_) rfl (by kernel_rfl) (by kernel_rfl) (by kernel_rfl) (fun _ _ _ h => h) (Or.inl ⟨by kernel_rfl, ?_⟩) hHeld ?_; rotate_left; (focus (intro wS hSw; (try dsimp only at hSw); go_simp; (try with_reducible rfl); done)); (try simp only [Act.put, List.setIfInBounds_toArray, List.set_cons_zero, List.set_cons_succ]); refine wpAnyH_take (i := 3) (oi := ⟨some 71, _, _, _, _, _⟩) (v := ?_) rfl (by kernel_rfl) (by kernel_rfl) (by kernel_rfl) (fun _ _ _ h => h) (Or.inl ⟨by kernel_rfl, ?_⟩) hHeld ?_; rotate_left; (focus (intro wS hSw; (try dsimp only at hSw); go_simp; (try with_reducible rfl); done)); (try simp only [Act.put, List.setIfInBounds_toArray, List.set_cons_zero, List.set_cons_succ]); refine wpAnyH_take (i := 5) (oi := ⟨some 73, _, _, _, _, _⟩) (v := ?_) rfl (by kernel_rfl) (by kernel_rfl) (by kernel_rfl) (fun _ _ _ h => h) (Or.inl ⟨by kernel_rfl, ?_⟩) hHeld ?_; rotate_left; (focus (intro wS hSw; (try dsimp only at hSw); go_simp; (try with_reducible rfl); done)); (try simp only [Act.put, List.setIfInBounds_toArray, List.set_cons_zero, List.set_cons_succ]); refine wpAnyH_take (i := 6) (oi := ⟨some 74, _, _, _, _, _⟩) (v := ?_) rfl (by kernel_rfl) (by kernel_rfl) (by kernel_rfl) (fun _ _ _ h => h) (Or.inl ⟨by kernel_rfl, ?_⟩) hHeld ?_; rotate_left; (focus (intro wS hSw; (try dsimp only at hSw); go_simp; (try with_reducible rfl); done)); (try simp only [Act.put, List.setIfInBounds_toArray, List.set_cons_zero, List.set_cons_succ]); refine wpAnyH_take (i := 7) (oi := ⟨some 75, _, _, _, _, _⟩) (v := ?_) rfl (by kernel_rfl) (by kernel_rfl) (by kernel_rfl) (fun _ _ _ h => h) (Or.inl ⟨by kernel_rfl, ?_⟩) hHeld ?_; rotate_left; (focus (intro wS hSw; (try dsimp only at hSw); go_simp; (try with_reducible rfl); done)); (try simp only [Act.put, List.setIfInBounds_toArray, List.set_cons_zero, List.set_cons_succ]); refine wpAnyH_take (i := 8) (oi := ⟨some 76, _, _, _, _, _⟩) (v := ?_) rfl (by kernel_rfl) (by kernel_rfl) (by kernel_rfl) (fun _ _ _ h => h) (Or.inl ⟨by kernel_rfl, ?_⟩) hHeld ?_; rotate_left; (focus (intro wS hSw; (try dsimp only at hSw); go_simp; (try with_reducible rfl); done)); (try simp only [Act.put, List.setIfInBounds_toArray, List.set_cons_zero, List.set_cons_succ]); refine wpAnyH_take (i := 11) (oi := ⟨some 79, _, _, _, _, _⟩) (v := ?_) rfl (by kernel_rfl) (by kernel_rfl) (by kernel_rfl) (fun _ _ _ h => h) (Or.inl ⟨by kernel_rfl, ?_⟩) hHeld ?_; rotate_left; (focus (intro wS hSw; (try dsimp only at hSw); go_simp; (try with_reducible rfl); done)); (try simp only [Act.put, List.setIfInBounds_toArray, List.set_cons_zero, List.set_cons_succ]); refine wpAnyH_take (i := 12) (oi := ⟨some 80, _, _, _, _, _⟩) (v := ?_) rfl (by kernel_rfl) (by kernel_rfl) (by kernel_rfl) (fun _ _ _ h => h) (Or.inl ⟨by kernel_rfl, ?_⟩) hHeld ?_; rotate_left; (focus (intro wS hSw; (try dsimp only at hSw); go_simp; (try with_reducible rfl); done)); (try simp only [Act.put, List.setIfInBounds_toArray, List.set_cons_zero, List.set_cons_succ]); refine wpAnyH_take (i := 13) (oi := ⟨some 81, _, _, _, _, _⟩) (v := ?_) rfl (by kernel_rfl) (by kernel_rfl) (by kernel_rfl) (fun _ _ _ h => h) (Or.inl ⟨by kernel_rfl, ?_⟩) hHeld ?_; rotate_left; (focus (intro wS hSw; (try dsimp only at hSw); go_simp; (try with_reducible rfl); done)); (try simp only [Act.put, List.setIfInBounds_toArray, List.set_cons_zero, List.set_cons_succ]); refine wpAnyH_take (i := 14) (oi := ⟨some 82, _, _, _, _, _⟩) (v := ?_) rfl (by kernel_rfl) (by kernel_rfl) (by kernel_rfl) (fun _ _ _ h => h) (Or.inl ⟨by kernel_rfl, ?_⟩) hHeld ?_; rotate_left; (focus (intro wS hSw; (try dsimp only at hSw); go_simp; (try with_reducible rfl); done)); (try simp only [Act.put, List.setIfInBounds_toArray, List.set_cons_zero, List.set_cons_succ]); refine wpAnyH_take (i := 15) (oi := ⟨some 83, _, _, _, _, _⟩) (v := ?_) rfl (by kernel_rfl) (by kernel_rfl) (by kernel_rfl) (fun _ _ _ h => h) (Or.inl ⟨by kernel_rfl, ?_⟩) hHeld ?_; rotate_left; (focus (intro wS hSw; (try dsimp only at hSw); go_simp; (try with_reducible rfl); done)); (try simp only [Act.put, List.setIfInBounds_toArray, List.set_cons_zero, List.set_cons_succ]))
          (refine wpAnyH_ready (rs := [4]) (by kernel_rfl) (by simp) ?_; refine AllReadyH.cons (o := ⟨some 72, _, _, _, _, _⟩) rfl (fun K hK => ?_) AllReadyH.nil; go_simp)
          refine (rrotr_any _ 17 _ hq (by decide) (by decide)).mono ?_
          rintro e w5 ⟨rfl, hb5⟩
          have k1 := l1.drew.ext hb5
          have k0 := l0.drew.ext hb5
          have kb := ext_trans (ext_drew lb) hb5
          clear hb5
          (refine hK.out _ _ (k1.cell (upto_get m t (t - 2) (by omega) (by omega))) (fun hHeld => ?_); clear hK K; (try simp only [Act.put, List.setIfInBounds_toArray, List.set_cons_zero, List.set_cons_succ]))
          (refine wpAnyH_ready (rs := [9]) (by kernel_rfl) (by simp) ?_; refine AllReadyH.cons (o := ⟨some 77, _, _, _, _, _⟩) rfl (fun K hK => ?_) AllReadyH.nil; go_simp)
          refine (rrotr_any _ 19 _ hq (by decide) (by decide)).mono ?_
          rintro e w6 ⟨rfl, hb6⟩
          have h1 := k1.ext hb6
          have h0 := k0.ext hb6
          have hb := ext_trans kb hb6
          clear hb6 k1 k0 kb l0 l1 lb c2
          (refine hK.out _ _ (h1.cell (upto_get m t (t - 2) (by omega) (by omega))) (fun hHeld => ?_); clear hK K; (try simp only [Act.put, List.setIfInBounds_toArray, List.set_cons_zero, List.set_cons_succ]))
          (refine wpAnyH_take (i := 10) (oi := ⟨some 78, _, _, _, _, _⟩) (v := ?_) rfl (by kernel_rfl) (by kernel_rfl) (by kernel_rfl) (fun _ _ _ h => h) (Or.inl ⟨by kernel_rfl, ?_⟩) hHeld ?_; rotate_left; (focus (intro wS hSw; (try dsimp only at hSw); go_simp; (try with_reducible rfl); done)); (try simp only [Act.put, List.setIfInBounds_toArray, List.set_cons_zero, List.set_cons_succ]); refine wpAnyH_take (i := 16) (oi := ⟨some 84, _, _, _, _, _⟩) (v := ?_) rfl (by kernel_rfl) (by kernel_rfl) (by kernel_rfl) (fun _ _ _ h => h) (Or.inl ⟨by kernel_rfl, ?_⟩) hHeld ?_; rotate_left; (focus (intro wS hSw; (try dsimp only at hSw); go_simp; (try with_reducible rfl); done)); (try simp only [Act.put, List.setIfInBounds_toArray, List.set_cons_zero, List.set_cons_succ]); refine wpAnyH_take (i := 17) (oi := ⟨some 7, _, _, _, _, _⟩) (v := ?_) rfl (by kernel_rfl) (by kernel_rfl) (by kernel_rfl) (fun _ _ _ h => h) (Or.inl ⟨by kernel_rfl, ?_⟩) hHeld ?_; rotate_left; (focus (intro wS hSw; (try dsimp only at hSw); go_simp; (try with_reducible rfl); done)); (try simp only [Act.put, List.setIfInBounds_toArray, List.set_cons_zero, List.set_cons_succ]))
          (refine wpAnyH_done (by kernel_rfl) ?_ _)
          have c16 := h1.cell (upto_get m t (t - 16) (by omega) (by omega))
          have c7 := h1.cell (upto_get m t (t - 7) (by omega) (by omega))
          have hf := h1.frozen t
          have hct := h1.cell (upto_zero_get m t t (by omega) hlt2)
          have b0 : (t : Int) < 64 := by omega
          have b1 := i64_id ((t : Int) - 16) (by omega)
          have b2 : (t : Int) - 16 < 64 := by omega
          have b3 := i64_id ((t : Int) - 7) (by omega)
          have b4 : (t : Int) - 7 < 64 := by omega
          have b5 : (0 : Int) ≤ (t : Int) - 16 := by omega
          have b6 : (0 : Int) ≤ (t : Int) - 7 := by omega
          have b7 : ((t : Int) - 16).toNat = t - 16 := by omega
          have b8 : ((t : Int) - 7).toNat = t - 7 := by omega
          have b9 : (7 : Int) ≤ (t : Int) := by omega
          have b10 : (16 : Int) ≤ (t : Int) := by omega
          go_wp2_with fail
          refine wp_region_tail 15 (by kernel_rfl) (by kernel_rfl) ?_
          simp only [List.take_succ_cons, List.take_zero, List.drop_succ_cons, List.drop_zero]
          repeat still_step
          try refine wpStill_nil ?_
          go_wp2_with fail
          have e : ((Sha.W m (t - 16) : Int) + (Sha.sg0 (Sha.W m (t - 15)) : Int) + (Sha.W m (t - 7) : Int) + (Sha.sg1 (Sha.W m (t - 2)) : Int)) % 4294967296 = (Sha.W m t : Int) := by
            rw [hst.out, Sha.stepW_eq]; simp
          go_roundw
          case rel =>
            rw [e]
            refine ⟨t + 1, by omega, by omega, by go_num, (h0.set_ne (by omega) _ _).drew, ?_, ((hb.setCell (p := ⟨w.heap.size + 1, t, none⟩) (by simp) _)).drew⟩
            rw [← hset.out]
            exact (h1.set _ _).drew
          case measure => simp [intOf]; omega
        · obtain rfl : t = 64 := by omega
          rw [upto_64] at h1
          have hL : (Tryd.prog.info? 104).map (·.size) = some ((Sha.sched m).map vu32).length := by rw [List.length_map, Sha.sched_length]; kernel_rfl
          have hL2 : (List.replicate 64 (Value.int .u32 0)).length = ((Sha.sched m).map vu32).length := by rw [List.length_map, Sha.sched_length]; simp
          have hL3 : ((Sha.sched m).map vu32).all (·.oneCell') = true := by simp [vu32, Value.oneCell']
          generalize hLe : (Sha.sched m).map vu32 = L at *
          go_wp2_with (first | (with_reducible refine at_op (.load 104 (.tmp 3)) rfl ?_; refine wpList_load_blk rfl 104 (.tmp 3) rfl (w.heap.size + 1) ?cA 104 _ _ h1 Tryd.underlying104 ?cB hL ?_; (case cA => simp [Act.eval]); (case cB => rfl)) | (with_reducible refine at_op (.store 104 (.tmp 2) (.tmp 100)) rfl ?_; refine wpList_store_blk rfl 104 _ _ rfl w.heap.size _ ?cC ?cD 104 _ h0 hL hL2 hL3 ?_; (case cC => simp [Act.eval, Act.put]); (case cD => simp [Act.eval, Act.put])))
          exact ret_blk rfl w.heap.size _ _ _ rfl (h0.setRow _) Tryd.underlying104 rfl hL rfl ⟨by rw [hLe], below_setRow hb (Nat.le_refl _) _⟩
end Go.Proofs.YtbccfgeepdmegaaDoor
