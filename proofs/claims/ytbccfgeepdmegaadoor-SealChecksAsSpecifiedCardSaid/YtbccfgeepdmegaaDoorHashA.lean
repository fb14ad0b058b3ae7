/- Walks: RotateLeft32, mix, schedule. -/
import Derived.Test.YtbccfgeepdmegaaDoorProg
import Derived.Test.YtbccfgeepdmegaaDoorMem
import Derived.Test.YtbccfgeepdmegaaDoorSha
import Derived.WalkSpells
import Derived.RegionTactic
import Derived.Deep.QuietTactic
import Derived.Deep.LoopGhost
import Derived.BigQuiet
import Derived.Outline
import Derived.StillTailTactics
set_option linter.unusedVariables false
set_option linter.unusedSimpArgs false
set_option linter.unnecessarySimpa false
namespace Go.Proofs.YtbccfgeepdmegaaDoor
open Go Go.RowKit Mem
theorem and31 (n : Nat) (h : n ≤ 31) : bits .and .u64 (IntKind.u64.wrap (-(n : Int))) 31 = (((32 - n) % 32 : Nat) : Int) := by
  have : ∀ n : Fin 32, bits .and .u64 (IntKind.u64.wrap (-((n.val : Nat) : Int))) 31 = (((32 - n.val) % 32 : Nat) : Int) := by decide +kernel
  exact this ⟨n, by omega⟩
theorem rotr_walk (x n : Nat) (hx : x < 4294967296) (h1 : 1 ≤ n) (hn : n ≤ 31) :
    bits .or .u32 (x * 2 ^ ((32 - n) % 32) % 4294967296) (x / 2 ^ (32 - (32 - n) % 32)) = ((Sha.rotr x n : Nat) : Int) := by
  have e : (32 - n) % 32 = 32 - n := Nat.mod_eq_of_lt (by omega)
  have e2 : 32 - (32 - n) = n := by omega
  rw [e, e2]
  have a : ((x : Int) * 2 ^ (32 - n) % 4294967296) = ((x * 2 ^ (32 - n) % 4294967296 : Nat) : Int) := by simp
  have b : ((x : Int) / 2 ^ n) = ((x / 2 ^ n : Nat) : Int) := by simp
  rw [a, b, or32 _ _ (Nat.mod_lt _ (by decide)) (Nat.lt_of_le_of_lt (Nat.div_le_self _ _) hx)]
  rw [Sha.rotr_eq]
  rw [Nat.shiftLeft_eq, Nat.shiftRight_eq_div_pow, Nat.or_comm]
set_option maxHeartbeats 400000 in
theorem rotl_any (x n : Nat) (w : World) (hx : x < 4294967296) (h0 : 1 ≤ n) (hn : n ≤ 31) :
    Calls Tryd.prog 71 #[.int .u32 x, .int .i64 (-n)] w fun e w' => e = .returned (.int .u32 (Sha.rotr x n)) ∧ w = w' := by
  have h1 := and31 n hn
  have h2 := run_shl Tryd.prog w .u32 .u64 x ((32 - n) % 32 : Nat) (by omega)
  have h3 := run_shr Tryd.prog w .u32 .u64 x ((32 - ((32 - n) % 32 : Nat)) : Int) (by omega)
  go_enter Tryd.func71, Tryd.ntmps71
  go_wp2
  go_ret
  exact ⟨by
    have := rotr_walk x n hx h0 hn
    rw [← this]; simp, rfl⟩
set_option maxHeartbeats 400000 in
theorem mix_any (x i j k : Nat) (w : World) (hx : x < 4294967296) (hi : 1 ≤ i ∧ i ≤ 31) (hj : 1 ≤ j ∧ j ≤ 31) (hk : 1 ≤ k ∧ k ≤ 31) :
    Calls Tryd.prog 66 #[.int .u32 x, .int .i64 i, .int .i64 j, .int .i64 k] w fun e w' => e = .returned (.int .u32 (Sha.mix x i j k)) ∧ w = w' := by
  have hxi := xor32 _ _ (Sha.rotr_lt x i hx) (Sha.rotr_lt x j hx)
  have hxj := xor32 _ _ (Sha.xor_lt (Sha.rotr_lt x i hx) (Sha.rotr_lt x j hx)) (Sha.rotr_lt x k hx)
  go_enter Tryd.func66, Tryd.ntmps66
  go_wp2_with fail
  refine (rotl_any x i w hx hi.1 hi.2).mono ?_; rintro e w' ⟨rfl, rfl⟩
  go_wp2_with fail
  refine (rotl_any x j w hx hj.1 hj.2).mono ?_; rintro e w' ⟨rfl, rfl⟩
  go_wp2_with fail
  refine (rotl_any x k w hx hk.1 hk.2).mono ?_; rintro e w' ⟨rfl, rfl⟩
  go_wp2_with fail
  go_ret
  exact ⟨by rw [Sha.mix_eq]; rfl, rfl⟩
def upto (m : List Nat) (t : Nat) : List Value := ((Sha.sched m).take t ++ List.replicate (64 - t) 0).map vu32
theorem upto_zero (m : List Nat) : upto m 0 = List.replicate 64 (.int .u32 0) := by
  simp [upto, vu32]
theorem upto_get (m : List Nat) (t i : Nat) (h : i < t) (ht : t ≤ 64) : (upto m t)[i]? = some (.int .u32 (Sha.W m i : Nat)) := by
  have hl := Sha.sched_length m
  unfold upto Sha.W
  rw [List.map_append, List.getElem?_append_left (by simp; omega), List.getElem?_map, List.getElem?_take, if_pos h, List.getD_eq_getElem?_getD, List.getElem?_eq_getElem (by omega)]
  rfl
theorem upto_zero_get (m : List Nat) (t i : Nat) (h : t ≤ i) (ht : i < 64) : (upto m t)[i]? = some (.int .u32 0) := by
  have hl := Sha.sched_length m
  unfold upto
  rw [List.map_append, List.getElem?_append_right (by simp; omega), List.getElem?_map, List.getElem?_replicate, if_pos (by simp; omega)]
  rfl
theorem upto_set (m : List Nat) (t : Nat) (ht : t < 64) : (upto m t).set t (.int .u32 (Sha.W m t : Nat)) = upto m (t + 1) := by
  have hl := Sha.sched_length m
  unfold upto Sha.W
  generalize Sha.sched m = L at *
  have e : min t L.length = t := by omega
  have e2 : L.getD t 0 = L[t] := by rw [List.getD_eq_getElem?_getD, List.getElem?_eq_getElem (by omega)]; rfl
  rw [e2, List.take_succ_eq_append_getElem (by omega), List.map_append, List.set_append_right _ _ (by simp; omega), show 64 - t = (64 - (t + 1)) + 1 by omega, List.replicate_succ, List.length_map, List.length_take, e, Nat.sub_self, List.map_append, List.map_append, List.append_assoc]
  simp [vu32]
theorem upto_64 (m : List Nat) : upto m 64 = (Sha.sched m).map vu32 := by
  have hl := Sha.sched_length m
  unfold upto
  rw [List.take_of_length_le (by omega)]; simp
theorem upto_len (m : List Nat) (t : Nat) (ht : t ≤ 64) : (upto m t).length = 64 := by
  have hl := Sha.sched_length m
  unfold upto
  simp; omega
theorem sched_get (m : List Nat) (t : Nat) (h : t < 64) : ((Sha.sched m).map vu32)[t]? = some (.int .u32 (Sha.W m t : Nat)) := by
  rw [← upto_64]; exact upto_get m 64 t h (Nat.le_refl _)
attribute [irreducible] upto
theorem wpart_walk (m : List Nat) (hm : ∀ x ∈ m, x < 256) (t j : Nat) :
    bits .or .u32 ((Sha.wpart m t j : Int) * 256 % 4294967296) (((m[4 * t + j]?.getD 0 : Nat) : Int) % 4294967296) = ((Sha.wpart m t (j + 1) : Nat) : Int) := by
  have hx : m[4 * t + j]?.getD 0 < 256 := by
    cases h : m[4 * t + j]? with
    | none => decide
    | some x => exact hm x (List.mem_of_getElem? h)
  rw [Sha.wpart_succ, List.getD_eq_getElem?_getD]
  generalize m[4 * t + j]?.getD 0 = x at *
  generalize Sha.wpart m t j = y
  rw [show ((y : Int) * 256 % 4294967296) = ((y * 256 % 4294967296 : Nat) : Int) by simp, show ((x : Int) % 4294967296) = (x : Int) by omega]
  exact or32 _ _ (Nat.mod_lt _ (by decide)) (by omega)
theorem xs0 (p : Nat) (hp : p < 4294967296) : bits .xor .u32 ((Sha.rotr p 7 ^^^ Sha.rotr p 18 : Nat) : Int) ((p : Int) / 8) = ((Sha.sg0 p : Nat) : Int) := by
  rw [show (p : Int) / (8 : Int) = ((p >>> 3 : Nat) : Int) by rw [Nat.shiftRight_eq_div_pow]; simp]
  rw [Sha.sg0_eq]
  exact xor32 _ _ (Sha.xor_lt (Sha.rotr_lt p 7 hp) (Sha.rotr_lt p 18 hp)) (Sha.shr_lt p 3 hp)
theorem xs1 (q : Nat) (hq : q < 4294967296) : bits .xor .u32 ((Sha.rotr q 17 ^^^ Sha.rotr q 19 : Nat) : Int) ((q : Int) / 1024) = ((Sha.sg1 q : Nat) : Int) := by
  rw [show (q : Int) / (1024 : Int) = ((q >>> 10 : Nat) : Int) by rw [Nat.shiftRight_eq_div_pow]; simp]
  rw [Sha.sg1_eq]
  exact xor32 _ _ (Sha.xor_lt (Sha.rotr_lt q 17 hq) (Sha.rotr_lt q 19 hq)) (Sha.shr_lt q 10 hq)
set_option maxRecDepth 100000 in
set_option maxHeartbeats 400000 in
theorem schedule_any (b off cap : Nat) (m : List Nat) (w : World) (hl : m.length = 64) (hc : 64 ≤ cap) (hcm : cap ≤ 140737488355328) (hm : ∀ x ∈ m, x < 256) (hat : At w b off (m.map vu8)) :
    Calls Tryd.prog 65 #[.slice (some ⟨b, off, none⟩) 64 cap] w fun e w' => e = .returned (.agg ((Sha.sched m).map vu32).toArray) ∧ Below w.heap.size w w' := by
  go_enter Tryd.func65, Tryd.ntmps65
  go_wp2_with fail
  go_loopw [11] (fun i wr => ∃ t : Nat, t ≤ 64 ∧ i = .int .i64 t ∧ Blk wr w.heap.size 104 (List.replicate 64 (.int .u32 0)) ∧ Blk wr (w.heap.size + 1) 104 (upto m t) ∧ Below w.heap.size w wr) (fun i _ => 64 - (intOf i).toNat)
  case atStart =>
    refine ⟨0, by omega, rfl, ?_, ?_, ?_⟩
    · exact (Blk.new w _ _).alloc _
    · rw [upto_zero]; have := Blk.new (w.alloc (.cells (List.replicate 64 (.int .u32 0)).toArray 104)) (List.replicate 64 (.int .u32 0)) 104; simpa using this
    · exact ((Below.refl _ _).alloc (Nat.le_refl _) _).alloc (by simp) _
  case round =>
    obtain ⟨t, ht, rfl, h0, h1, hb⟩ := hrel
    by_cases hlt : t < 16
    · have hi0 : (0 : Int) ≤ 4 * (t : Int) := by omega
      have hin : (upto m t).set t (.int .u32 ((Sha.wpart m t 0 : Nat) : Int)) = upto m t := by
        rw [Sha.wpart_zero]; exact set_self (upto_zero_get m t t (Nat.le_refl _) (by omega))
      have hend : (upto m t).set t (.int .u32 ((Sha.wpart m t 4 : Nat) : Int)) = upto m (t + 1) := by
        rw [← Sha.word_eq, ← Sha.W_word m t hlt]; exact upto_set m t (by omega)
      have hbyte : ∀ j, j < 4 → w.cell? ⟨b, off + 4 * t + j, none⟩ = some (.int .u8 (m.getD (4 * t + j) 0 : Nat)) := by
        intro j hj
        rw [Nat.add_assoc]
        refine hat _ _ ?_
        rw [List.getElem?_map, List.getD_eq_getElem?_getD, List.getElem?_eq_getElem (by omega)]; rfl
      have hbl : b < w.heap.size := block_lt_of_cell (hbyte 0 (by omega))
      have hul : t < (upto m t).length := by rw [upto_len m t ht]; omega
      replace hin := hide hin
      replace hend := hide hend
      replace hbyte := hide hbyte
      replace hat := hide hat
      replace hm := hide hm
      replace hl := hide hl
      go_wp2_with fail
      obtain ⟨wo, rfl⟩ : ∃ wo : World, wo = wr := ⟨_, rfl⟩
      go_loopw [24] (fun i wr => ∃ j : Nat, j ≤ 4 ∧ i = .int .i64 j ∧ Blk wr w.heap.size 104 (List.replicate 64 (.int .u32 0)) ∧ Blk wr (w.heap.size + 1) 104 ((upto m t).set t (.int .u32 ((Sha.wpart m t j : Nat) : Int))) ∧ Below w.heap.size w wr) (fun i _ => 4 - (intOf i).toNat)
      case atStart => exact ⟨0, by omega, rfl, h0, by rw [hin.out]; exact h1, hb⟩
      case round =>
        clear h0 h1 hb
        obtain ⟨j, hj, rfl, h0, h1, hb⟩ := hrel
        by_cases hj4 : j < 4
        · have cb := hbyte.out j hj4
          rw [← hb.cell (p := ⟨b, off + 4 * t + j, none⟩) hbl] at cb
          have cw := h1.cell (List.getElem?_set_self hul)
          have hf := h1.frozen t
          go_wp2_with fail
          go_roundw
          case rel =>
            rw [wpart_walk m hm.out t j]
            refine ⟨j + 1, by omega, by go_num, h0.set_ne (by omega) _ _, ?_, hb.setCell (by simp) _⟩
            have := h1.set t (.int .u32 ((Sha.wpart m t (j + 1) : Nat) : Int))
            rwa [List.set_set] at this
          case measure => simp [intOf]; omega
        · obtain rfl : j = 4 := by omega
          rw [hend.out] at h1
          go_wp2_with fail
          go_roundw
          case rel => exact ⟨t + 1, by omega, by go_num, h0, h1, hb⟩
          case measure => simp [intOf]; omega
    · by_cases hlt2 : t < 64
      · have c15 := h1.cell (upto_get m t (t - 15) (by omega) (by omega))
        have c16 := h1.cell (upto_get m t (t - 16) (by omega) (by omega))
        have c7 := h1.cell (upto_get m t (t - 7) (by omega) (by omega))
        have c2 := h1.cell (upto_get m t (t - 2) (by omega) (by omega))
        have hp := Sha.W_lt m hm (t - 15)
        have hq := Sha.W_lt m hm (t - 2)
        have hst := Sha.W_step m t (by omega) hlt2
        have hf := h1.frozen t
        have hct := h1.cell (upto_zero_get m t t (by omega) hlt2)
        have hset := upto_set m t hlt2
        have x1 := xor32 _ _ (Sha.rotr_lt _ 7 hp) (Sha.rotr_lt _ 18 hp)
        have x2 := xs0 _ hp
        have x3 := xor32 _ _ (Sha.rotr_lt _ 17 hq) (Sha.rotr_lt _ 19 hq)
        have x4 := xs1 _ hq
        replace hset := hide hset
        replace hst := hide hst
        replace hat := hide hat
        replace hm := hide hm
        replace hl := hide hl
        go_wp2_with fail
        go_quiet (fail)
        go_wp2_with fail
        refine (rotl_any _ 7 _ hp (by decide) (by decide)).mono ?_; rintro e w' ⟨rfl, rfl⟩
        go_wp2_with fail
        refine (rotl_any _ 18 _ hp (by decide) (by decide)).mono ?_; rintro e w' ⟨rfl, rfl⟩
        go_wp2_with fail
        refine (rotl_any _ 17 _ hq (by decide) (by decide)).mono ?_; rintro e w' ⟨rfl, rfl⟩
        go_wp2_with fail
        refine (rotl_any _ 19 _ hq (by decide) (by decide)).mono ?_; rintro e w' ⟨rfl, rfl⟩
        go_wp2_with fail
        have b1 := i64_id ((t : Int) - 16) (by omega)
        have b2 : (t : Int) - 16 < 64 := by omega
        have b3 := i64_id ((t : Int) - 7) (by omega)
        have b4 : (t : Int) - 7 < 64 := by omega
        have b5 : (0 : Int) ≤ (t : Int) - 16 := by omega
        have b6 : (0 : Int) ≤ (t : Int) - 7 := by omega
        have b7 : ((t : Int) - 16).toNat = t - 16 := by omega
        have b8 : ((t : Int) - 7).toNat = t - 7 := by omega
        have b9 : (7 : Int) ≤ (t : Int) := by omega
        have b10 : (16 : Int) ≤ (t : Int) := by omega
        refine wp_region_tail 15 (by kernel_rfl) (by kernel_rfl) ?_
        simp only [List.take_succ_cons, List.take_zero, List.drop_succ_cons, List.drop_zero]
        repeat still_step
        try refine wpStill_nil ?_
        go_wp2_with fail
        go_roundw
        case rel =>
          have e : ((Sha.W m (t - 16) : Int) + (Sha.sg0 (Sha.W m (t - 15)) : Int) + (Sha.W m (t - 7) : Int) + (Sha.sg1 (Sha.W m (t - 2)) : Int)) % 4294967296 = (Sha.W m t : Int) := by
            rw [hst.out, Sha.stepW_eq]; simp
          rw [e]
          refine ⟨t + 1, by omega, by go_num, h0.drewN.set_ne (by omega) _ _, ?_, (below_drewN hb _).setCell (by simp) _⟩
          rw [← hset.out]
          exact h1.drewN.set _ _
        case measure => simp [intOf]; omega
      · obtain rfl : t = 64 := by omega
        rw [upto_64] at h1
        have hL : (Tryd.prog.info? 104).map (·.size) = some ((Sha.sched m).map vu32).length := by rw [List.length_map, Sha.sched_length]; kernel_rfl
        have hL2 : (List.replicate 64 (Value.int .u32 0)).length = ((Sha.sched m).map vu32).length := by rw [List.length_map, Sha.sched_length]; simp
        have hL3 : ((Sha.sched m).map vu32).all (·.oneCell') = true := by simp [vu32, Value.oneCell']
        generalize hLe : (Sha.sched m).map vu32 = L at *
        go_wp2_with (first | (with_reducible refine at_op (.load 104 (.tmp 3)) rfl ?_; refine wpList_load_blk rfl 104 (.tmp 3) rfl (w.heap.size + 1) ?cA 104 _ _ h1 Tryd.underlying104 ?cB hL ?_; (case cA => simp [Act.eval]); (case cB => rfl)) | (with_reducible refine at_op (.store 104 (.tmp 2) (.tmp 78)) rfl ?_; refine wpList_store_blk rfl 104 _ _ rfl w.heap.size _ ?cC ?cD 104 _ h0 hL hL2 hL3 ?_; (case cC => simp [Act.eval, Act.put]); (case cD => simp [Act.eval, Act.put])))
        exact ret_blk rfl w.heap.size _ _ _ rfl (h0.setRow _) Tryd.underlying104 rfl hL rfl ⟨by rw [hLe], below_setRow hb (Nat.le_refl _) _⟩
end Go.Proofs.YtbccfgeepdmegaaDoor
