/- Walks: the reference's hash: Sum. -/
import Derived.Test.YtbccfgeepdmegaaDoorRhC
import Derived.Test.YtbccfgeepdmegaaDoorRhE0
set_option linter.unusedVariables false
set_option linter.unusedSimpArgs false
set_option linter.unnecessarySimpa false
namespace Go.Proofs.YtbccfgeepdmegaaDoor
open Go Go.RowKit Mem
set_option maxRecDepth 100000 in
set_option maxHeartbeats 8000000 in
theorem rsum_any (A : Option Addr) (cap : Nat) (m : List Nat) (w : World) (hm : Rd w A (m.map vu8)) (hlt : ∀ x ∈ m, x < 256) (hn : m.length ≤ 1000000) (hK : At w 1 0 (Sha.K.map vu32)) :
    Calls Tryd.prog 63 #[.slice A m.length cap] w fun e w' => e = .returned (.agg ((Sha.fin (Sha.feed Sha.st0 m)).map vu8).toArray) ∧ Below w.heap.size w w' := by
  obtain ⟨W, hW, O0, S0, hb⟩ : ∃ W, W = (w.alloc (.cells (List.replicate 32 (Value.int .u8 0)).toArray 91)).alloc (.cells (Sha.init.list.map vu32).toArray 82) ∧ Blk W w.heap.size 91 (List.replicate 32 (.int .u8 0)) ∧ Blk W (w.heap.size + 1) 82 (Sha.init.list.map vu32) ∧ Below w.heap.size w W :=
    ⟨_, rfl, (Blk.new w _ _).alloc _, blk_new1 w _ _ _, ext_alloc (ext_alloc (Below.refl _ _) _) _⟩
  have hpad := fun W' h => padded_any A cap m W' h hn
  obtain ⟨M, hM⟩ : ∃ M, M = m ++ Sha.pad m.length := ⟨_, rfl⟩
  rw [← hM] at hpad
  replace hpad := hide hpad
  replace hM := hide hM
  replace hlt := hide hlt
  have hmW := Rd.below hm hb
  have hKW := hide (hK.below hb)
  replace hK := hide hK
  go_enter Tryd.func63, Tryd.ntmps63
  go_wp2_with fail
  have hW2 : (w.alloc (.cells #[.int .u8 0, .int .u8 0, .int .u8 0, .int .u8 0, .int .u8 0, .int .u8 0, .int .u8 0, .int .u8 0, .int .u8 0, .int .u8 0, .int .u8 0, .int .u8 0, .int .u8 0, .int .u8 0, .int .u8 0, .int .u8 0, .int .u8 0, .int .u8 0, .int .u8 0, .int .u8 0, .int .u8 0, .int .u8 0, .int .u8 0, .int .u8 0, .int .u8 0, .int .u8 0, .int .u8 0, .int .u8 0, .int .u8 0, .int .u8 0, .int .u8 0, .int .u8 0] 91)).alloc (.cells #[.int .u32 1779033703, .int .u32 3144134277, .int .u32 1013904242, .int .u32 2773480762, .int .u32 1359893119, .int .u32 2600822924, .int .u32 528734635, .int .u32 1541459225] 82) = W := hW.symm
  rw [hW2]
  refine (hpad.out _ hmW).mono ?_
  rintro e w2 ⟨v, rfl, own2, hb2⟩
  obtain ⟨B, hB⟩ : ∃ B, M.length = 64 * B := by rw [hM.out]; exact pad_blocks m
  have hMl : M.length ≤ 1000072 := by rw [hM.out, List.length_append, Sha.pad_length]; have := Sha.padz_lt m.length; omega
  have hM256 : ∀ x ∈ M, x < 256 := by rw [hM.out]; exact pad_all m hlt.out
  have hfin : 64 * B = M.length → Sha.outB (Sha.sAt M B) = Sha.fin (Sha.feed Sha.st0 m) := by rw [hM.out]; exact fun h => rfin m hlt.out B h
  have hMpos : 0 < M.length := by rw [hM.out, List.length_append, Sha.pad_length]; omega
  obtain ⟨g, cap2, rfl, hc1, hc2, hg1, hg2, hat⟩ := own_at own2 hMpos
  have O2 := O0.below hb2 O0.lt
  have S2 := S0.below hb2 S0.lt
  have B2 := ext_trans hb hb2
  have hW3 := S0.lt
  rw [show (Sha.init : Sha.S8) = Sha.sAt M 0 from (Sha.sAt_zero M).symm] at S2
  unfold maxLen at hc2
  replace hfin := hide hfin
  replace hM256 := hide hM256
  clear hmW hKW own2 hpad S0 O0 hb hMpos hb2 hW
  go_wp2_with fail
  go_loopw [5] (fun i wr => ∃ b : Nat, b ≤ B ∧ i = .int .i64 (64 * (b : Int)) ∧ Blk wr w.heap.size 91 (List.replicate 32 (.int .u8 0)) ∧ Blk wr (w.heap.size + 1) 82 ((Sha.sAt M b).list.map vu32) ∧ At wr g 0 (M.map vu8) ∧ g < wr.heap.size ∧ Below w.heap.size w wr) (fun i _ => M.length - (intOf i).toNat)
  case atStart => exact ⟨0, by omega, rfl, O2, S2, hat, hg2, B2⟩
  case round =>
    clear O2 S2 hat hg2 B2
    obtain ⟨b, hbB, rfl, k0, k1, hat, hg2, hb⟩ := hrel
    by_cases hlt2 : b < B
    · have x1 : 64 * (b : Int) < (M.length : Int) := by omega
      have x2 : (0 : Int) ≤ 64 * (b : Int) := by omega
      have x3 := i64_id (64 * (b : Int) + 64) (by omega)
      have x4 : 64 * b + 64 ≤ M.length := by omega
      obtain ⟨MB, hMB⟩ : ∃ MB, MB = (M.drop (64 * b)).take 64 := ⟨_, rfl⟩
      have hstep := Sha.sAt_step M hM256.out b x4
      have hMBl : MB.length = 64 := by rw [hMB, List.length_take, List.length_drop]; omega
      have hMBlt : ∀ x ∈ MB, x < 256 := by rw [hMB]; exact fun x hx => hM256.out x (List.mem_of_mem_drop (List.mem_of_mem_take hx))
      have hatB : At wr g (64 * b) (MB.map vu8) := by
        have h := hat.sub (64 * b) 64
        rw [Nat.zero_add, ← List.map_drop, ← List.map_take, ← hMB] at h; exact h
      rw [← hMB] at hstep
      have hwords := hide (words_any g (64 * b) (cap2 - 64 * b) MB wr hMBl (by omega) (by omega) hMBlt hatB)
      have hL := hide (show (Tryd.prog.info? 104).map (·.size) = some ((Sha.sched MB).map vu32).length by rw [List.length_map, Sha.sched_length]; kernel_rfl)
      have hL1 := hide (show (List.replicate 64 (Value.int .u32 0)).length = ((Sha.sched MB).map vu32).length by rw [List.length_map, Sha.sched_length]; simp)
      have hL2 := hide (show ((Sha.sched MB).map vu32).all (·.oneCell') = true by simp [vu32, Value.oneCell'])
      obtain ⟨⟨a0, a1, a2, a3, a4, a5, a6, a7⟩, hS⟩ : ∃ s, s = Sha.sAt M b := ⟨_, rfl⟩
      rw [← hS] at k1 hstep
      have ok0 : (Sha.S8.mk a0 a1 a2 a3 a4 a5 a6 a7).ok := by
        rcases b with _ | b
        · rw [hS, Sha.sAt_zero]; exact Sha.init_ok
        · rw [hS, Sha.sAt_step M hM256.out b (by omega)]; exact Sha.compress_ok _ _
      replace k1 : Blk wr (w.heap.size + 1) 82 [.int .u32 a0, .int .u32 a1, .int .u32 a2, .int .u32 a3, .int .u32 a4, .int .u32 a5, .int .u32 a6, .int .u32 a7] := k1
      have c0 := k1.cell (i := 0) rfl
      have hWg := hide hat
      have hbw := hide hb
      replace hat := hide hat
      replace hS := hide hS
      replace hMB := hide hMB
      replace hstep := hide hstep
      replace hMBlt := hide hMBlt
      replace hMBl := hide hMBl
      replace hatB := hide hatB
      replace ok0 := hide ok0
      clear hM hlt
      go_upto_region 7 with (first
        | (go_at_call 68; refine hwords.out.mono ?_; rintro e w3 ⟨rfl, hb3⟩)
        | (with_reducible refine at_op (.store 104 (.tmp 6) (.tmp 28)) rfl ?_; go_loud (refine wpList_store_blk rfl _ _ _ rfl w3.heap.size ((Sha.sched MB).map vu32) ?c1 ?c2 104 _ (Blk.new w3 _ 104) ?c3 ?c4 ?c5 ?_); go_loud (case c1 => simp [Act.eval]; done); go_loud (case c2 => simp [Act.eval]; done); go_loud (case c3 => exact hL.out); go_loud (case c4 => rw [List.length_map, Sha.sched_length]; simp; done); go_loud (case c5 => exact hL2.out); go_loud (rw [setRow_alloc]); dsimp only [Act.put]))
      replace hB := hide hB
      clear hMl hc1 hc2
      have m1 := k1.ext hb3
      have m0 := k0.ext hb3
      have mb := ext_trans hb hb3
      have n2 := Blk.new w3 ((Sha.sched MB).map vu32) 104
      have n1 := m1.alloc (.cells (List.map vu32 (Sha.sched MB)).toArray 104)
      have n0 := m0.alloc (.cells (List.map vu32 (Sha.sched MB)).toArray 104)
      have nb := ext_alloc mb (.cells (List.map vu32 (Sha.sched MB)).toArray 104)
      have ng := hide ((hat.out.below hb3).alloc (.cells (List.map vu32 (Sha.sched MB)).toArray 104))
      have hwg : g < (w3.alloc (.cells (List.map vu32 (Sha.sched MB)).toArray 104)).heap.size := by have := hb3.size; simp; omega
      clear k0 k1 hb hbw hat hWg hatB hwords m0 m1 mb c0 hL hL1 hL2 hb3 hg2
      generalize w3.alloc (.cells (List.map vu32 (Sha.sched MB)).toArray 104) = w4 at *
      generalize w3.heap.size = r at *
      have c0 := n1.cell (i := 0) rfl
      have c1 := n1.cell (i := 1) rfl
      have c2 := n1.cell (i := 2) rfl
      have c3 := n1.cell (i := 3) rfl
      have c4 := n1.cell (i := 4) rfl
      have c5 := n1.cell (i := 5) rfl
      have c6 := n1.cell (i := 6) rfl
      have c7 := n1.cell (i := 7) rfl
      have hKw := hide (hK.out.below nb)
      have hrl := n2.lt
      go_wp2_with fail
      clear c0 c1 c2 c3 c4 c5 c6 c7
      have hp0 := Blk.new w4 [.int .u32 a0, .int .u32 a1, .int .u32 a2, .int .u32 a3, .int .u32 a4, .int .u32 a5, .int .u32 a6, .int .u32 a7] 82
      have hpb := (Below.refl w4.heap.size w4).alloc (Nat.le_refl _) (.cells [.int .u32 a0, .int .u32 a1, .int .u32 a2, .int .u32 a3, .int .u32 a4, .int .u32 a5, .int .u32 a6, .int .u32 a7].toArray 82)
      go_loopw [8] (fun i wr => ∃ (t vA vB vC vD vE vF vG vH : Nat), t ≤ 64 ∧ i = .int .i64 t ∧ Hid (Sha.S8.mk vA vB vC vD vE vF vG vH = Sha.Rn MB ⟨a0, a1, a2, a3, a4, a5, a6, a7⟩ t) ∧ Blk wr w4.heap.size 82 [.int .u32 vA, .int .u32 vB, .int .u32 vC, .int .u32 vD, .int .u32 vE, .int .u32 vF, .int .u32 vG, .int .u32 vH] ∧ Below w4.heap.size w4 wr) (fun i _ => 64 - (intOf i).toNat)
      case atStart => exact ⟨0, _, _, _, _, _, _, _, _, by omega, rfl, hide (Sha.Rn_zero _ _).symm, hp0, hpb⟩
      case round =>
        clear hp0 hpb
        obtain ⟨t, vA, vB, vC, vD, vE, vF, vG, vH, ht, rfl, hR, kp, kb⟩ := hrel
        by_cases ht64 : t < 64
        · have cp0 := kp.cell (i := 0) rfl
          have cp1 := kp.cell (i := 1) rfl
          have cp2 := kp.cell (i := 2) rfl
          have cp3 := kp.cell (i := 3) rfl
          have cp4 := kp.cell (i := 4) rfl
          have cp5 := kp.cell (i := 5) rfl
          have cp6 := kp.cell (i := 6) rfl
          have cp7 := kp.cell (i := 7) rfl
          have cr := (n2.below kb hrl).cell (sched_get MB t ht64)
          have ck := (hKw.out.below kb) t (.int .u32 (Sha.Kn t)) (by rw [List.getElem?_map, Sha.Kn_get t ht64]; rfl)
          rw [Nat.zero_add] at ck
          obtain ⟨hA, hB1, hC, hD, hE, hF, hG, hH⟩ : vA < 4294967296 ∧ vB < 4294967296 ∧ vC < 4294967296 ∧ vD < 4294967296 ∧ vE < 4294967296 ∧ vF < 4294967296 ∧ vG < 4294967296 ∧ vH < 4294967296 := by
            have := Sha.Rn_ok ok0.out MB t
            rw [← hR.out] at this
            exact this
          have f0 := rmix_walk vE 6 11 25 hE
          have f1 := rch_walk vE vF vG hE hF hG
          have f2 := maj_walk vA vB vC hA hB1 hC
          have f3 : (((vH : Int) + (Sha.mix vE 6 11 25 : Int) + (Sha.ch vE vF vG : Int) + (Sha.Kn t : Int)) % 4294967296 + (Sha.W MB t : Int)) % 4294967296 = ((Sha.t1 ⟨vA, vB, vC, vD, vE, vF, vG, vH⟩ (Sha.Kn t) (Sha.W MB t) : Nat) : Int) := by rw [Int.emod_add_emod]; exact t1_walk vA vB vC vD vE vF vG vH (Sha.Kn t) (Sha.W MB t)
          have f4 := t2_walk vA vB vC vD vE vF vG vH
          have f5 := rmix_walk vA 2 13 22 hA
          have i1 : (t : Int) < 64 := by omega
          have R6 := hide (fun (W : World) (a : Nat) => (show Calls Tryd.prog 69 #[.int .u32 vE, .int .i64 6] (W.drewN a) (fun e w' => e = .returned (.int .u32 (Sha.rotr vE 6 : Nat)) ∧ ∃ k, w' = W.drewN k) from rrotr_draw vE 6 W a hE (by decide) (by decide)))
          have R11 := hide (fun (W : World) (a : Nat) => (show Calls Tryd.prog 69 #[.int .u32 vE, .int .i64 11] (W.drewN a) (fun e w' => e = .returned (.int .u32 (Sha.rotr vE 11 : Nat)) ∧ ∃ k, w' = W.drewN k) from rrotr_draw vE 11 W a hE (by decide) (by decide)))
          have R25 := hide (fun (W : World) (a : Nat) => (show Calls Tryd.prog 69 #[.int .u32 vE, .int .i64 25] (W.drewN a) (fun e w' => e = .returned (.int .u32 (Sha.rotr vE 25 : Nat)) ∧ ∃ k, w' = W.drewN k) from rrotr_draw vE 25 W a hE (by decide) (by decide)))
          --MARK1
          go_wp2_with fail
          --MARK2
          go_quiet ((go_at_call 69; first | with_reducible exact R6.out _ _ | with_reducible exact R11.out _ _ | with_reducible exact R25.out _ _))
          clear R6 R11 R25
          have R2 := hide (fun (W : World) (c a : Nat) => (show Calls Tryd.prog 69 #[.int .u32 vA, .int .i64 2] (W.drewN (c + a)) (fun e w' => e = .returned (.int .u32 (Sha.rotr vA 2 : Nat)) ∧ ∃ k, w' = W.drewN (c + k)) from rrotr_draw2 vA 2 W c a hA (by decide) (by decide)))
          have R13 := hide (fun (W : World) (c a : Nat) => (show Calls Tryd.prog 69 #[.int .u32 vA, .int .i64 13] (W.drewN (c + a)) (fun e w' => e = .returned (.int .u32 (Sha.rotr vA 13 : Nat)) ∧ ∃ k, w' = W.drewN (c + k)) from rrotr_draw2 vA 13 W c a hA (by decide) (by decide)))
          have R22 := hide (fun (W : World) (c a : Nat) => (show Calls Tryd.prog 69 #[.int .u32 vA, .int .i64 22] (W.drewN (c + a)) (fun e w' => e = .returned (.int .u32 (Sha.rotr vA 22 : Nat)) ∧ ∃ k, w' = W.drewN (c + k)) from rrotr_draw2 vA 22 W c a hA (by decide) (by decide)))
          --MARK3
          go_wp2_with fail
          go_quiet ((go_at_call 69; first | with_reducible exact R2.out _ _ _ | with_reducible exact R13.out _ _ _ | with_reducible exact R22.out _ _ _))
          clear R2 R13 R22 f0 f1 cr ck
          have hrn := Sha.Rn_succ MB ⟨a0, a1, a2, a3, a4, a5, a6, a7⟩ t
          rw [← hR.out, Sha.round_add] at hrn
          replace hrn := hide hrn.symm
          clear hR
          generalize Sha.t1 ⟨vA, vB, vC, vD, vE, vF, vG, vH⟩ (Sha.Kn t) (Sha.W MB t) = T1 at *
          generalize Sha.t2 ⟨vA, vB, vC, vD, vE, vF, vG, vH⟩ = T2 at *
          have g1 := add32_walk vD T1
          have g2 := add32_walk T1 T2
          have fp := kp.frozen
          --MARK4
          go_wp2_with fail
          go_roundw
          case rel =>
            refine ⟨t + 1, _, _, _, _, _, _, _, _, by omega, by go_num, hrn, ?_, ?_⟩
            · exact (((((((kp.drewN.set 0 _).set 1 _).set 2 _).set 3 _).set 4 _).set 5 _).set 6 _).set 7 _
            · exact below8 (below_drewN kb _) (Nat.le_refl _)
          case measure => simp [intOf]; omega
        · have e64 : t = 64 := by omega
          have n64 : ¬ (t : Int) < 64 := by omega
          have hadd := Sha.compress_eq ⟨a0, a1, a2, a3, a4, a5, a6, a7⟩ MB
          rw [← e64, ← hR.out, ← hstep.out] at hadd
          have q0 := n0.below kb n0.lt
          have q1 := n1.below kb n1.lt
          have qg := ng.out.below kb
          have qb := nb.trans (kb.mono nb.size)
          have qs := kb.size
          have hgq : g < wr.heap.size := by omega
          rw [← upS_zero a0 a1 a2 a3 a4 a5 a6 a7 [vA, vB, vC, vD, vE, vF, vG, vH]] at q1
          replace hadd := hide hadd
          replace e64 := hide e64
          have l1 := n1.lt
          clear n0 n1 n2 nb ng ht hwg hR
          --MARK5
          go_wp2_with fail
          obtain ⟨wo, rfl⟩ : ∃ wo : World, wo = wr := ⟨_, rfl⟩
          go_loopw [11] (fun i wr => ∃ k : Nat, k ≤ 8 ∧ i = .int .i64 k ∧ Blk wr w.heap.size 91 (List.replicate 32 (.int .u8 0)) ∧ Blk wr (w.heap.size + 1) 82 (upS [a0, a1, a2, a3, a4, a5, a6, a7] [vA, vB, vC, vD, vE, vF, vG, vH] k) ∧ Blk wr w4.heap.size 82 [.int .u32 vA, .int .u32 vB, .int .u32 vC, .int .u32 vD, .int .u32 vE, .int .u32 vF, .int .u32 vG, .int .u32 vH] ∧ At wr g 0 (M.map vu8) ∧ g < wr.heap.size ∧ Below w.heap.size w wr) (fun i _ => 8 - (intOf i).toNat)
          case atStart => exact ⟨0, by omega, rfl, q0, q1, kp, qg, hgq, qb⟩
          case round =>
            clear q0 q1 kp qg qb qs kb
            obtain ⟨k, hk8, rfl, q0, q1, kp, qg, hgq, qb⟩ := hrel
            by_cases hk : k < 8
            · have hset := hide (upS_set [a0, a1, a2, a3, a4, a5, a6, a7] [vA, vB, vC, vD, vE, vF, vG, vH] k hk)
              have d1 := q1.cell (upS_get [a0, a1, a2, a3, a4, a5, a6, a7] [vA, vB, vC, vD, vE, vF, vG, vH] k k hk)
              rw [if_neg (Nat.lt_irrefl k)] at d1
              have d2 := kp.cell (s8_get ⟨vA, vB, vC, vD, vE, vF, vG, vH⟩ k hk)
              rw [show (Sha.S8.mk vA vB vC vD vE vF vG vH).list = [vA, vB, vC, vD, vE, vF, vG, vH] from rfl] at d2
              obtain ⟨x, hx⟩ : ∃ x, x = List.getD [a0, a1, a2, a3, a4, a5, a6, a7] k 0 := ⟨_, rfl⟩
              obtain ⟨y, hy⟩ : ∃ y, y = List.getD [vA, vB, vC, vD, vE, vF, vG, vH] k 0 := ⟨_, rfl⟩
              rw [← hx] at d1 hset
              rw [← hy] at d2 hset
              replace d1 : wr.cell? ⟨w.heap.size + 1, k, none⟩ = some (.int .u32 (x : Nat)) := d1
              replace d2 : wr.cell? ⟨w4.heap.size, k, none⟩ = some (.int .u32 (y : Nat)) := d2
              have fz := q1.frozen k
              have kI : (k : Int) < 8 := by omega
              have g1 := add32_walk x y
              replace hx := hide hx
              replace hy := hide hy
              --MARK6
              go_wp2_with fail
              refine wp_region_tail 9 (by kernel_rfl) (by kernel_rfl) ?_
              simp only [List.take_succ_cons, List.take_zero, List.drop_succ_cons, List.drop_zero]
              repeat still_step
              try refine wpStill_nil ?_
              go_wp2_with fail
              refine ⟨⟨k + 1, by omega, by go_num, (q0.set_ne (by omega) _ _).drew, ?_, (kp.set_ne (by omega) _ _).drew, (qg.set_ne (by omega) _ _).drew, by simpa using hgq, (qb.setCell (p := ⟨w.heap.size + 1, k, none⟩) (by simp) _).drew⟩, by simp [intOf]; omega⟩
              rw [← hset.out]
              exact (q1.set _ _).drew
            · have e8 : k = 8 := by omega
              have n8 : ¬ (k : Int) < 8 := by omega
              rw [e8, show [a0, a1, a2, a3, a4, a5, a6, a7] = (Sha.S8.mk a0 a1 a2 a3 a4 a5 a6 a7).list from rfl, show [vA, vB, vC, vD, vE, vF, vG, vH] = (Sha.S8.mk vA vB vC vD vE vF vG vH).list from rfl, upS_full, ← hadd.out] at q1
              replace e8 := hide e8
              clear hk8 hk
              --MARK7
              go_wp2_with fail
              refine ⟨⟨b + 1, by omega, ?_, q0, q1, qg, hgq, qb⟩, ?_⟩
              · rw [show (64 * ((b + 1 : Nat) : Int)) = 64 * (b : Int) + 64 by omega]
              · have := hB.out
                simp only [intOf]
                omega
    · have eB : b = B := by omega
      have nB : ¬ 64 * (b : Int) < (M.length : Int) := by omega
      rw [eB] at k1
      have hfin2 := hfin.out hB.symm
      have qs := hb.size
      replace eB := hide eB
      replace hfin2 := hide hfin2
      clear hlt2 hbB
      --MARK8
      go_wp2_with fail
      obtain ⟨wo, rfl⟩ : ∃ wo : World, wo = wr := ⟨_, rfl⟩
      have j2 := Blk.new wo (List.replicate 32 (Value.int .u8 0)) 91
      have j0 := k0.alloc (.cells (List.replicate 32 (.int .u8 0)).toArray 91)
      have j1 := k1.alloc (.cells (List.replicate 32 (.int .u8 0)).toArray 91)
      have jb := ext_alloc hb (.cells (List.replicate 32 (.int .u8 0)).toArray 91)
      have hwo := k1.lt
      clear k0 k1 hb hat
      obtain ⟨S, hS⟩ : ∃ S, S = Sha.sAt M B := ⟨_, rfl⟩
      rw [← hS] at j1 hfin2
      replace hS := hide hS
      go_loopw [13] (fun a wr => ∃ i : Nat, i ≤ 32 ∧ a = .int .i64 i ∧ Blk wr wo.heap.size 91 (fill (fun i => .int .u8 (S.list.getD (i / 4) 0 >>> (24 - 8 * (i % 4)) % 256 : Nat)) (.int .u8 0) 32 i) ∧ Blk wr w.heap.size 91 (List.replicate 32 (.int .u8 0)) ∧ Blk wr (w.heap.size + 1) 82 (S.list.map vu32) ∧ Below w.heap.size w wr) (fun a _ => 32 - (intOf a).toNat)
      case atStart => exact ⟨0, by omega, rfl, by rw [fill_zero]; exact j2, j0, j1, jb⟩
      case round =>
        clear j0 j1 j2 jb
        obtain ⟨i, hi32, rfl, q2, q0, q1, qb⟩ := hrel
        by_cases hlt : i < 32
        · have hcw := q1.cell (s8_get S (i / 4) (by omega))
          have hsh := fun w => shr_word (S.list.getD (i / 4) 0) i w
          have hfr := q2.frozen i
          have hct := q2.cell (fill_get _ _ _ i i hlt)
          rw [if_neg (Nat.lt_irrefl i)] at hct
          have hset := hide (fill_set (fun i => .int .u8 (S.list.getD (i / 4) 0 >>> (24 - 8 * (i % 4)) % 256 : Nat)) (.int .u8 0) 32 i hlt)
          obtain ⟨x, hx⟩ : ∃ x, x = S.list.getD (i / 4) 0 := ⟨_, rfl⟩
          rw [← hx] at hcw
          replace hcw : wr.cell? ⟨w.heap.size + 1, i / 4, none⟩ = some (.int .u32 (x : Nat)) := hcw
          replace hsh : ∀ w, (Op.shift .shr .u32 (x : Int) .i64 (24 - 8 * ((i : Int) % 4))).run Tryd.prog w = .ok (.int .u32 ((x >>> (24 - 8 * (i % 4)) : Nat) : Int)) w := by rw [hx]; exact hsh
          replace hx := hide hx
          have i1 : (i : Int) / 4 < 8 := by omega
          have i2 : (0 : Int) ≤ (i : Int) / 4 := by omega
          go_wp2_with fail
          rw [shr_byte x]
          go_roundw
          case rel =>
            refine ⟨i + 1, by omega, by go_num, ?_, q0.set_ne (by omega) _ _, q1.set_ne (by omega) _ _, qb.setCell (by simp; omega) _⟩
            have h := q2.set i (.int .u8 ((x >>> (24 - 8 * (i % 4)) % 256 : Nat) : Int))
            rw [← hset.out]
            rw [hx.out] at h ⊢
            exact h
          case measure => simp [intOf]; omega
        · obtain rfl : i = 32 := by omega
          rw [fill_full] at q2
          have hfin3 : (List.range 32).map (fun i => (Value.int .u8 (S.list.getD (i / 4) 0 >>> (24 - 8 * (i % 4)) % 256 : Nat))) = (Sha.fin (Sha.feed Sha.st0 m)).map vu8 := by
            rw [← hfin2.out, Sha.outB_eq, List.map_map]; rfl
          rw [hfin3] at q2
          have hF : (Sha.fin (Sha.feed Sha.st0 m)).length = 32 := by rw [Sha.fin_eq, Sha.outB_length]
          have hL5 : (Tryd.prog.info? 91).map (·.size) = some ((Sha.fin (Sha.feed Sha.st0 m)).map vu8).length := by rw [List.length_map, hF]; kernel_rfl
          have hL6 : (List.replicate 32 (Value.int .u8 0)).length = ((Sha.fin (Sha.feed Sha.st0 m)).map vu8).length := by rw [List.length_map, hF]; simp
          have hL7 : ((Sha.fin (Sha.feed Sha.st0 m)).map vu8).all (·.oneCell') = true := by simp [vu8, Value.oneCell']
          clear hfin3 hF
          generalize hLf : (Sha.fin (Sha.feed Sha.st0 m)).map vu8 = Lf at *
          replace hLf := hide hLf
          replace hL5 := hide hL5
          replace hL6 := hide hL6
          replace hL7 := hide hL7
          go_wp2_with (first | ((refine at_op (.load 91 (.tmp 12)) (by with_reducible rfl) ?_); refine wpList_load_blk rfl 91 (.tmp 12) rfl wo.heap.size ?cA 91 _ _ q2 Tryd.underlying91 rfl hL5.out ?_; (case cA => simp [Act.eval]; done)) | ((refine at_op (.store 91 (.tmp 2) (.tmp 147)) (by with_reducible rfl) ?_); refine wpList_store_blk rfl 91 (.tmp 2) (.tmp 147) rfl w.heap.size Lf ?cC ?cD 91 _ q0 hL5.out hL6.out hL7.out ?_; (case cC => simp [Act.eval, Act.put]; done); (case cD => simp [Act.eval, Act.put]; done)))
          exact ret_blk rfl w.heap.size _ _ _ rfl (q0.setRow _) Tryd.underlying91 rfl hL5.out rfl ⟨by rw [hLf.out], below_setRow qb (Nat.le_refl _) _⟩
end Go.Proofs.YtbccfgeepdmegaaDoor
