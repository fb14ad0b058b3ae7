/- Walks: compress. -/
import Derived.Test.YtbccfgeepdmegaaDoorHashA
import Derived.Deep.CutRange
import Derived.Deep.DeepCutAuto
import Derived.Deep.RegionHeld3
import Derived.BigRegion
import Derived.Laws.NewBlocks
set_option linter.unusedVariables false
set_option linter.unusedSimpArgs false
set_option linter.unnecessarySimpa false
namespace Go.Proofs.YtbccfgeepdmegaaDoor
open Go Go.RowKit Mem
theorem ch_walk (E F G : Nat) (hE : E < 4294967296) (hF : F < 4294967296) (hG : G < 4294967296) :
    bits .xor .u32 (bits .and .u32 (E : Int) (F : Int)) (bits .and .u32 (bits .xor .u32 IntKind.u32.max (E : Int)) (G : Int)) = ((Sha.ch E F G : Nat) : Int) := by
  have hmax : IntKind.u32.max = ((4294967295 : Nat) : Int) := by decide
  have hnot : 4294967295 ^^^ E = 4294967295 - E := by
    have := BitVec.toNat_not (x := BitVec.ofNat 32 E)
    have h2 : ~~~ (BitVec.ofNat 32 E) = BitVec.allOnes 32 ^^^ BitVec.ofNat 32 E := by simp [BitVec.not_def]
    rw [h2, BitVec.toNat_xor, BitVec.toNat_allOnes, BitVec.toNat_ofNat, Nat.mod_eq_of_lt hE] at this
    omega
  rw [hmax, and32 _ _ hE hF, xor32 _ _ (by decide) hE, hnot, and32 _ _ (by omega) hG, Sha.ch_eq]
  exact xor32 _ _ (Sha.and_lt hF) (Sha.and_lt hG)
theorem maj_walk (A B C : Nat) (hA : A < 4294967296) (hB : B < 4294967296) (hC : C < 4294967296) :
    bits .xor .u32 (bits .xor .u32 (bits .and .u32 (A : Int) (B : Int)) (bits .and .u32 (A : Int) (C : Int))) (bits .and .u32 (B : Int) (C : Int)) = ((Sha.maj A B C : Nat) : Int) := by
  rw [and32 _ _ hA hB, and32 _ _ hA hC, and32 _ _ hB hC, xor32 _ _ (Sha.and_lt hB) (Sha.and_lt hC), Sha.maj_eq]
  exact xor32 _ _ (Sha.xor_lt (Sha.and_lt hB) (Sha.and_lt hC)) (Sha.and_lt hC)
theorem t1_walk (A B C D E F G H k w : Nat) : ((H : Int) + (Sha.mix E 6 11 25 : Int) + (Sha.ch E F G : Int) + (k : Int) + (w : Int)) % 4294967296 = ((Sha.t1 ⟨A, B, C, D, E, F, G, H⟩ k w : Nat) : Int) := by
  rw [Sha.t1_eq]; simp
theorem t2_walk (A B C D E F G H : Nat) : ((Sha.mix A 2 13 22 : Int) + (Sha.maj A B C : Int)) % 4294967296 = ((Sha.t2 ⟨A, B, C, D, E, F, G, H⟩ : Nat) : Int) := by
  rw [Sha.t2_eq]; simp
theorem add32_walk (x y : Nat) : ((x : Int) + (y : Int)) % 4294967296 = ((Sha.add32 x y : Nat) : Int) := by
  rw [Sha.add32_eq]; simp
def s8upto (s v : Sha.S8) : Nat → List Value
  | 0 => [.int .u32 s.a, .int .u32 s.b, .int .u32 s.c, .int .u32 s.d, .int .u32 s.e, .int .u32 s.f, .int .u32 s.g, .int .u32 s.h]
  | 1 => [.int .u32 (Sha.add32 s.a v.a), .int .u32 s.b, .int .u32 s.c, .int .u32 s.d, .int .u32 (Sha.add32 s.e v.e), .int .u32 s.f, .int .u32 s.g, .int .u32 s.h]
  | 2 => [.int .u32 (Sha.add32 s.a v.a), .int .u32 (Sha.add32 s.b v.b), .int .u32 s.c, .int .u32 s.d, .int .u32 (Sha.add32 s.e v.e), .int .u32 (Sha.add32 s.f v.f), .int .u32 s.g, .int .u32 s.h]
  | 3 => [.int .u32 (Sha.add32 s.a v.a), .int .u32 (Sha.add32 s.b v.b), .int .u32 (Sha.add32 s.c v.c), .int .u32 s.d, .int .u32 (Sha.add32 s.e v.e), .int .u32 (Sha.add32 s.f v.f), .int .u32 (Sha.add32 s.g v.g), .int .u32 s.h]
  | _ => [.int .u32 (Sha.add32 s.a v.a), .int .u32 (Sha.add32 s.b v.b), .int .u32 (Sha.add32 s.c v.c), .int .u32 (Sha.add32 s.d v.d), .int .u32 (Sha.add32 s.e v.e), .int .u32 (Sha.add32 s.f v.f), .int .u32 (Sha.add32 s.g v.g), .int .u32 (Sha.add32 s.h v.h)]
set_option maxRecDepth 100000 in
set_option maxHeartbeats 2000000 in
theorem compress_any (a0 a1 a2 a3 a4 a5 a6 a7 b off cap : Nat) (m : List Nat) (w : World) (hl : m.length = 64) (hc : 64 ≤ cap) (hcm : cap ≤ 140737488355328) (hm : ∀ x ∈ m, x < 256) (hat : At w b off (m.map vu8)) (hbl : b < w.heap.size) (hK : At w 0 0 (Sha.K.map vu32)) (hs : (Sha.S8.mk a0 a1 a2 a3 a4 a5 a6 a7).ok) :
    Calls Tryd.prog 61 #[.agg #[.int .u32 a0, .int .u32 a1, .int .u32 a2, .int .u32 a3, .int .u32 a4, .int .u32 a5, .int .u32 a6, .int .u32 a7], .slice (some ⟨b, off, none⟩) 64 cap] w fun e w' => e = .returned (.agg ((Sha.compress ⟨a0, a1, a2, a3, a4, a5, a6, a7⟩ m).list.map vu32).toArray) ∧ Below w.heap.size w w' := by
  replace hat := hide hat
  replace hm := hide hm
  replace hl := hide hl
  replace hs := hide hs
  go_enter Tryd.func61, Tryd.ntmps61
  go_upto_region 2 with (first | (go_at_call 65; refine (schedule_any b off cap m _ hl.out hc hcm hm.out ?_).mono ?_; (exact ((hat.out.below (((Below.refl _ _).alloc (Nat.le_refl _) _).alloc (by simp) _)))); rintro e w1 ⟨rfl, hb1⟩) | (with_reducible refine at_op (.store 104 (.tmp 5) (.tmp 14)) rfl ?_; go_loud (refine wpList_store_blk rfl _ _ _ rfl w1.heap.size ((Sha.sched m).map vu32) ?c1 ?c2 104 _ (Blk.new w1 _ 104) ?c3 ?c4 ?c5 ?_); go_loud (case c1 => simp [Act.eval]; done); go_loud (case c2 => simp [Act.eval]; done); go_loud (case c3 => rw [List.length_map, Sha.sched_length]; kernel_rfl); go_loud (case c4 => rw [List.length_map, Sha.sched_length]; simp; done); go_loud (case c5 => simp [vu32, Value.oneCell']; done); go_loud (rw [setRow_alloc]); dsimp only [Act.put]))
  have hN : (w.heap.size + 1) < w1.heap.size := by have := hb1.size; simp at this; omega
  have k0 : Blk w1 w.heap.size 82 [.int .u32 a0, .int .u32 a1, .int .u32 a2, .int .u32 a3, .int .u32 a4, .int .u32 a5, .int .u32 a6, .int .u32 a7] := ((Blk.new w _ _).alloc _).below hb1 (by simp; try omega)
  have k1 : Blk w1 (w.heap.size + 1) 82 [.int .u32 0, .int .u32 0, .int .u32 0, .int .u32 0, .int .u32 0, .int .u32 0, .int .u32 0, .int .u32 0] := (blk_new1 w _ _ _).below hb1 (by simp; try omega)
  have kb : Below w.heap.size w w1 := (((Below.refl _ _).alloc (Nat.le_refl _) _).alloc (by simp) _).trans (hb1.mono (by simp; omega))
  have j0 := k0.alloc (.cells (List.map vu32 (Sha.sched m)).toArray 104)
  have j1 := k1.alloc (.cells (List.map vu32 (Sha.sched m)).toArray 104)
  have j2 := Blk.new w1 (List.map vu32 (Sha.sched m)) 104
  have jb := kb.alloc (by omega) (.cells (List.map vu32 (Sha.sched m)).toArray 104)
  generalize w1.alloc (.cells (List.map vu32 (Sha.sched m)).toArray 104) = w2 at *
  clear kb k0 k1 hb1
  generalize w1.heap.size = r at *
  have hr := j2.lt
  go_cut [6, 7] (fun s6 s7 wx => ∃ p q : Nat, s6 = .pointer (some ⟨p, 0, none⟩) ∧ s7 = .pointer (some ⟨q, 0, none⟩) ∧ p ≠ q ∧ w2.heap.size ≤ p ∧ w2.heap.size ≤ q ∧ Blk wx p 106 [.int .u32 a0, .int .u32 a1, .int .u32 a2, .int .u32 a3] ∧ Blk wx q 106 [.int .u32 a4, .int .u32 a5, .int .u32 a6, .int .u32 a7] ∧ Below w2.heap.size w2 wx)
  case first =>
    have e0 := j0.cell (i := 0) rfl
    have e1 := j0.cell (i := 1) rfl
    have e2 := j0.cell (i := 2) rfl
    have e3 := j0.cell (i := 3) rfl
    have e4 := j0.cell (i := 4) rfl
    have e5 := j0.cell (i := 5) rfl
    have e6 := j0.cell (i := 6) rfl
    have e7 := j0.cell (i := 7) rfl
    have hA := fun (a : Option Addr) (cap : Nat) (w : World) => run_arrayAt (P := Tryd.prog) w Tryd.underlying106 a 4 cap (Nat.le_refl _)
    have l0 := j0.lt
    have l1 : w.heap.size < w2.heap.size + 1 := by omega
    clear j0 j1 j2 jb
    go_region
    · go_wp2
      go_meet
      exact ⟨w2.heap.size, w2.heap.size + 1, rfl, rfl, by omega, Nat.le_refl _, by omega, ((Blk.new w2 _ _).alloc _).drew, (blk_new1 w2 _ _ _).drew, (((Below.refl _ _).alloc (Nat.le_refl _) _).alloc (by simp) _).drew⟩
    · go_wp2
      go_meet
      exact ⟨w2.heap.size + 1, w2.heap.size, rfl, rfl, by omega, by omega, Nat.le_refl _, (blk_new1 w2 _ _ _).drew, ((Blk.new w2 _ _).alloc _).drew, (((Below.refl _ _).alloc (Nat.le_refl _) _).alloc (by simp) _).drew⟩
  case rest =>
    obtain ⟨p, q, rfl, rfl, hpq, hp, hq, kp, kq, kb⟩ := hcut
    have k0 := j0.below kb j0.lt
    have k1 := j1.below kb j1.lt
    have k2 := j2.below kb j2.lt
    have hb := jb.trans (kb.mono (by have := jb.size; omega))
    have hg : At wc 0 0 (Sha.K.map vu32) := hK.below (hb.mono (Nat.le_refl _))
    clear kb j0 j1 j2 jb
    generalize hLK : Sha.K.map vu32 = LK at *
    have hL : (Tryd.prog.info? 104).map (·.size) = some LK.length := by rw [← hLK]; kernel_rfl
    replace hLK := hide hLK
    go_wp2_with (first | (with_reducible refine at_op (.load 104 (.global 0)) rfl ?_; refine wpList_load_at rfl _ _ rfl 0 0 rfl LK _ hg Tryd.underlying104 rfl hL ?_))
    have hpN : w.heap.size < p ∧ w.heap.size < q ∧ w.heap.size + 1 < p ∧ w.heap.size + 1 < q ∧ r ≠ p ∧ r ≠ q := by omega
    have hS0 : (Sha.S8.mk a0 a1 a2 a3 a4 a5 a6 a7) = Sha.Rn m ⟨a0, a1, a2, a3, a4, a5, a6, a7⟩ 0 := (Sha.Rn_zero _ _).symm
    replace hS0 := hide hS0
    clear hp hq
    go_loopw [22] (fun i wr => ∃ (t A B C D E F G H : Nat), t ≤ 64 ∧ i = .int .i64 t ∧ Hid (Sha.S8.mk A B C D E F G H = Sha.Rn m ⟨a0, a1, a2, a3, a4, a5, a6, a7⟩ t) ∧ Blk wr p 106 [.int .u32 A, .int .u32 B, .int .u32 C, .int .u32 D] ∧ Blk wr q 106 [.int .u32 E, .int .u32 F, .int .u32 G, .int .u32 H]
      ∧ Blk wr w.heap.size 82 [.int .u32 a0, .int .u32 a1, .int .u32 a2, .int .u32 a3, .int .u32 a4, .int .u32 a5, .int .u32 a6, .int .u32 a7] ∧ Blk wr (w.heap.size + 1) 82 [.int .u32 0, .int .u32 0, .int .u32 0, .int .u32 0, .int .u32 0, .int .u32 0, .int .u32 0, .int .u32 0] ∧ Blk wr r 104 ((Sha.sched m).map vu32) ∧ Below w.heap.size w wr) (fun i _ => 64 - (intOf i).toNat)
    case atStart => exact ⟨0, _, _, _, _, _, _, _, _, by omega, rfl, hS0, kp, kq, k0, k1, k2, hb⟩
    case round =>
      clear kp kq k0 k1 k2 hb hS0
      obtain ⟨t, A, B, C, D, E, F, G, H, ht, rfl, hS, kp, kq, k0, k1, k2, hb⟩ := hrel
      by_cases hlt : t < 64
      · have cq0 := kq.cell (i := 0) rfl
        have cq1 := kq.cell (i := 1) rfl
        have cq2 := kq.cell (i := 2) rfl
        have cq3 := kq.cell (i := 3) rfl
        have cp0 := kp.cell (i := 0) rfl
        have cp1 := kp.cell (i := 1) rfl
        have cp2 := kp.cell (i := 2) rfl
        have cp3 := kp.cell (i := 3) rfl
        have cr := k2.cell (sched_get m t hlt)
        have hidx := fun w => run_index_arr (P := Tryd.prog) w Tryd.underlying104 Tryd.underlying81 rfl (by kernel_rfl) LK .i64 t hlt (.int .u32 (Sha.Kn t)) (by rw [← hLK.out, List.getElem?_map, Sha.Kn_get t hlt]; rfl)
        obtain ⟨hA, hB, hC, hD, hE, hF, hG, hH⟩ : A < 4294967296 ∧ B < 4294967296 ∧ C < 4294967296 ∧ D < 4294967296 ∧ E < 4294967296 ∧ F < 4294967296 ∧ G < 4294967296 ∧ H < 4294967296 := by
          have := Sha.Rn_ok hs.out m t
          rw [← hS.out] at this
          exact this
        go_wp2_with fail
        have f1 := ch_walk E F G hE hF hG
        have f2 := maj_walk A B C hA hB hC
        have f3 := t1_walk A B C D E F G H (Sha.Kn t) (Sha.W m t)
        have f4 := t2_walk A B C D E F G H
        have hmx := fun w => mix_any E 6 11 25 w hE (by decide) (by decide) (by decide)
        have HM := hide hmx
        clear hmx
        go_quiet ((go_at_call 66; exact quiet1 HM.out _ _))
        go_wp2_with fail
        have HM2 := hide (fun w => mix_any A 2 13 22 w hA (by decide) (by decide) (by decide))
        go_quiet ((go_at_call 66; exact quiet2 HM2.out _ _ _))
        clear f1 cr hidx HM HM2
        have hrn := Sha.Rn_succ m ⟨a0, a1, a2, a3, a4, a5, a6, a7⟩ t
        rw [← hS.out, Sha.round_add] at hrn
        replace hrn := hide hrn.symm
        clear hS
        generalize Sha.t1 ⟨A, B, C, D, E, F, G, H⟩ (Sha.Kn t) (Sha.W m t) = T1 at *
        generalize Sha.t2 ⟨A, B, C, D, E, F, G, H⟩ = T2 at *
        have g1 := add32_walk D T1
        have g2 := add32_walk T1 T2
        have fp := kp.frozen
        have fq := kq.frozen
        go_wp2_with fail
        go_roundw
        case rel =>
          refine ⟨t + 1, _, _, _, _, _, _, _, _, by omega, by go_num, hrn, ?_, ?_, ?_, ?_, ?_, ?_⟩
          · exact ((((((((kp.drewN.set_ne hpq 0 _).set_ne hpq 1 _).set_ne hpq 2 _).set_ne hpq 3 _).set 0 _).set 1 _).set 2 _).set 3 _)
          · exact ((((((((kq.drewN.set 0 _).set 1 _).set 2 _).set 3 _).set_ne (Ne.symm hpq) 0 _).set_ne (Ne.symm hpq) 1 _).set_ne (Ne.symm hpq) 2 _).set_ne (Ne.symm hpq) 3 _)
          · exact far4 (far4 k0.drewN (by omega)) (by omega)
          · exact far4 (far4 k1.drewN (by omega)) (by omega)
          · exact far4 (far4 k2.drewN (by omega)) (by omega)
          · exact below4 (below4 (below_drewN hb _) (by omega)) (by omega)
        case measure => simp [intOf]; omega
      · obtain rfl : t = 64 := by omega
        have hfin := Sha.compress_eq ⟨a0, a1, a2, a3, a4, a5, a6, a7⟩ m
        rw [← hS.out] at hfin
        replace hfin := hide hfin
        clear hS
        go_wp2_with fail
        obtain ⟨wo, rfl⟩ : ∃ wo : World, wo = wr := ⟨_, rfl⟩
        go_loopw [94] (fun i wr => ∃ k : Nat, k ≤ 4 ∧ i = .int .i64 k ∧ Blk wr p 106 [.int .u32 A, .int .u32 B, .int .u32 C, .int .u32 D] ∧ Blk wr q 106 [.int .u32 E, .int .u32 F, .int .u32 G, .int .u32 H]
          ∧ Blk wr w.heap.size 82 (s8upto ⟨a0, a1, a2, a3, a4, a5, a6, a7⟩ ⟨A, B, C, D, E, F, G, H⟩ k) ∧ Blk wr (w.heap.size + 1) 82 [.int .u32 0, .int .u32 0, .int .u32 0, .int .u32 0, .int .u32 0, .int .u32 0, .int .u32 0, .int .u32 0] ∧ Below w.heap.size w wr) (fun i _ => 4 - (intOf i).toNat)
        case atStart => exact ⟨0, by omega, rfl, kp, kq, k0, k1, hb⟩
        case round =>
          clear kp kq k0 k1 k2 hb
          obtain ⟨k, hk, rfl, kp, kq, k0, k1, hb⟩ := hrel
          by_cases hk4 : k < 4
          · have fN := k0.frozen
            have n1 := hpN.1
            have n2 := hpN.2.1
            rcases (by omega : k = 0 ∨ k = 1 ∨ k = 2 ∨ k = 3) with rfl | rfl | rfl | rfl
            · have c1 := k0.cell (i := 0) rfl
              have c2 := kp.cell (i := 0) rfl
              have g1 := add32_walk a0 A
              have g2 := add32_walk a4 E
              go_wp2_with fail
              refine wp_region_tail 8 (by kernel_rfl) (by kernel_rfl) ?_
              simp only [List.take_succ_cons, List.take_zero, List.drop_succ_cons, List.drop_zero]
              repeat still_step
              try refine wpStill_nil ?_
              go_wp2_with fail
              rw [g1]
              have j0 : Blk ((wr.setCell ⟨w.heap.size, 0, none⟩ (.int .u32 (Sha.add32 a0 A : Nat))).drew) w.heap.size 82 _ := (k0.set 0 _).drew
              have j1 : Blk ((wr.setCell ⟨w.heap.size, 0, none⟩ (.int .u32 (Sha.add32 a0 A : Nat))).drew) (w.heap.size + 1) 82 _ := (k1.set_ne (by omega) 0 _).drew
              have jp : Blk ((wr.setCell ⟨w.heap.size, 0, none⟩ (.int .u32 (Sha.add32 a0 A : Nat))).drew) p 106 _ := (kp.set_ne (by omega) 0 _).drew
              have jq : Blk ((wr.setCell ⟨w.heap.size, 0, none⟩ (.int .u32 (Sha.add32 a0 A : Nat))).drew) q 106 _ := (kq.set_ne (by omega) 0 _).drew
              have jb : Below w.heap.size w ((wr.setCell ⟨w.heap.size, 0, none⟩ (.int .u32 (Sha.add32 a0 A : Nat))).drew) := (hb.setCell (by simp) _).drew
              generalize (wr.setCell ⟨w.heap.size, 0, none⟩ (.int .u32 (Sha.add32 a0 A : Nat))).drew = w5 at *
              clear k0 k1 kp kq hb c1 c2 fN
              have c3 := j0.cell (i := 4) rfl
              have hw := i64_id 4 (by decide)
              have c4 := jq.cell (i := 0) rfl
              have fN := j0.frozen
              refine wp_region_tail 9 (by kernel_rfl) (by kernel_rfl) ?_
              simp only [List.take_succ_cons, List.take_zero, List.drop_succ_cons, List.drop_zero]
              repeat still_step
              try refine wpStill_nil ?_
              go_wp2_with fail
              refine ⟨⟨1, by omega, rfl, (jp.set_ne (by omega) 4 _).drew, (jq.set_ne (by omega) 4 _).drew, (j0.set 4 _).drew, (j1.set_ne (by omega) 4 _).drew, (jb.setCell (by simp) _).drew⟩, ?_⟩
              simp [intOf]
            · have c1 := k0.cell (i := 1) rfl
              have c2 := kp.cell (i := 1) rfl
              have g1 := add32_walk a1 B
              have g2 := add32_walk a5 F
              go_wp2_with fail
              refine wp_region_tail 8 (by kernel_rfl) (by kernel_rfl) ?_
              simp only [List.take_succ_cons, List.take_zero, List.drop_succ_cons, List.drop_zero]
              repeat still_step
              try refine wpStill_nil ?_
              go_wp2_with fail
              rw [g1]
              have j0 : Blk ((wr.setCell ⟨w.heap.size, 1, none⟩ (.int .u32 (Sha.add32 a1 B : Nat))).drew) w.heap.size 82 _ := (k0.set 1 _).drew
              have j1 : Blk ((wr.setCell ⟨w.heap.size, 1, none⟩ (.int .u32 (Sha.add32 a1 B : Nat))).drew) (w.heap.size + 1) 82 _ := (k1.set_ne (by omega) 1 _).drew
              have jp : Blk ((wr.setCell ⟨w.heap.size, 1, none⟩ (.int .u32 (Sha.add32 a1 B : Nat))).drew) p 106 _ := (kp.set_ne (by omega) 1 _).drew
              have jq : Blk ((wr.setCell ⟨w.heap.size, 1, none⟩ (.int .u32 (Sha.add32 a1 B : Nat))).drew) q 106 _ := (kq.set_ne (by omega) 1 _).drew
              have jb : Below w.heap.size w ((wr.setCell ⟨w.heap.size, 1, none⟩ (.int .u32 (Sha.add32 a1 B : Nat))).drew) := (hb.setCell (by simp) _).drew
              generalize (wr.setCell ⟨w.heap.size, 1, none⟩ (.int .u32 (Sha.add32 a1 B : Nat))).drew = w5 at *
              clear k0 k1 kp kq hb c1 c2 fN
              have c3 := j0.cell (i := 5) rfl
              have hw := i64_id 5 (by decide)
              have c4 := jq.cell (i := 1) rfl
              have fN := j0.frozen
              refine wp_region_tail 9 (by kernel_rfl) (by kernel_rfl) ?_
              simp only [List.take_succ_cons, List.take_zero, List.drop_succ_cons, List.drop_zero]
              repeat still_step
              try refine wpStill_nil ?_
              go_wp2_with fail
              refine ⟨⟨2, by omega, rfl, (jp.set_ne (by omega) 5 _).drew, (jq.set_ne (by omega) 5 _).drew, (j0.set 5 _).drew, (j1.set_ne (by omega) 5 _).drew, (jb.setCell (by simp) _).drew⟩, ?_⟩
              simp [intOf]
            · have c1 := k0.cell (i := 2) rfl
              have c2 := kp.cell (i := 2) rfl
              have g1 := add32_walk a2 C
              have g2 := add32_walk a6 G
              go_wp2_with fail
              refine wp_region_tail 8 (by kernel_rfl) (by kernel_rfl) ?_
              simp only [List.take_succ_cons, List.take_zero, List.drop_succ_cons, List.drop_zero]
              repeat still_step
              try refine wpStill_nil ?_
              go_wp2_with fail
              rw [g1]
              have j0 : Blk ((wr.setCell ⟨w.heap.size, 2, none⟩ (.int .u32 (Sha.add32 a2 C : Nat))).drew) w.heap.size 82 _ := (k0.set 2 _).drew
              have j1 : Blk ((wr.setCell ⟨w.heap.size, 2, none⟩ (.int .u32 (Sha.add32 a2 C : Nat))).drew) (w.heap.size + 1) 82 _ := (k1.set_ne (by omega) 2 _).drew
              have jp : Blk ((wr.setCell ⟨w.heap.size, 2, none⟩ (.int .u32 (Sha.add32 a2 C : Nat))).drew) p 106 _ := (kp.set_ne (by omega) 2 _).drew
              have jq : Blk ((wr.setCell ⟨w.heap.size, 2, none⟩ (.int .u32 (Sha.add32 a2 C : Nat))).drew) q 106 _ := (kq.set_ne (by omega) 2 _).drew
              have jb : Below w.heap.size w ((wr.setCell ⟨w.heap.size, 2, none⟩ (.int .u32 (Sha.add32 a2 C : Nat))).drew) := (hb.setCell (by simp) _).drew
              generalize (wr.setCell ⟨w.heap.size, 2, none⟩ (.int .u32 (Sha.add32 a2 C : Nat))).drew = w5 at *
              clear k0 k1 kp kq hb c1 c2 fN
              have c3 := j0.cell (i := 6) rfl
              have hw := i64_id 6 (by decide)
              have c4 := jq.cell (i := 2) rfl
              have fN := j0.frozen
              refine wp_region_tail 9 (by kernel_rfl) (by kernel_rfl) ?_
              simp only [List.take_succ_cons, List.take_zero, List.drop_succ_cons, List.drop_zero]
              repeat still_step
              try refine wpStill_nil ?_
              go_wp2_with fail
              refine ⟨⟨3, by omega, rfl, (jp.set_ne (by omega) 6 _).drew, (jq.set_ne (by omega) 6 _).drew, (j0.set 6 _).drew, (j1.set_ne (by omega) 6 _).drew, (jb.setCell (by simp) _).drew⟩, ?_⟩
              simp [intOf]
            · have c1 := k0.cell (i := 3) rfl
              have c2 := kp.cell (i := 3) rfl
              have g1 := add32_walk a3 D
              have g2 := add32_walk a7 H
              go_wp2_with fail
              refine wp_region_tail 8 (by kernel_rfl) (by kernel_rfl) ?_
              simp only [List.take_succ_cons, List.take_zero, List.drop_succ_cons, List.drop_zero]
              repeat still_step
              try refine wpStill_nil ?_
              go_wp2_with fail
              rw [g1]
              have j0 : Blk ((wr.setCell ⟨w.heap.size, 3, none⟩ (.int .u32 (Sha.add32 a3 D : Nat))).drew) w.heap.size 82 _ := (k0.set 3 _).drew
              have j1 : Blk ((wr.setCell ⟨w.heap.size, 3, none⟩ (.int .u32 (Sha.add32 a3 D : Nat))).drew) (w.heap.size + 1) 82 _ := (k1.set_ne (by omega) 3 _).drew
              have jp : Blk ((wr.setCell ⟨w.heap.size, 3, none⟩ (.int .u32 (Sha.add32 a3 D : Nat))).drew) p 106 _ := (kp.set_ne (by omega) 3 _).drew
              have jq : Blk ((wr.setCell ⟨w.heap.size, 3, none⟩ (.int .u32 (Sha.add32 a3 D : Nat))).drew) q 106 _ := (kq.set_ne (by omega) 3 _).drew
              have jb : Below w.heap.size w ((wr.setCell ⟨w.heap.size, 3, none⟩ (.int .u32 (Sha.add32 a3 D : Nat))).drew) := (hb.setCell (by simp) _).drew
              generalize (wr.setCell ⟨w.heap.size, 3, none⟩ (.int .u32 (Sha.add32 a3 D : Nat))).drew = w5 at *
              clear k0 k1 kp kq hb c1 c2 fN
              have c3 := j0.cell (i := 7) rfl
              have hw := i64_id 7 (by decide)
              have c4 := jq.cell (i := 3) rfl
              have fN := j0.frozen
              refine wp_region_tail 9 (by kernel_rfl) (by kernel_rfl) ?_
              simp only [List.take_succ_cons, List.take_zero, List.drop_succ_cons, List.drop_zero]
              repeat still_step
              try refine wpStill_nil ?_
              go_wp2_with fail
              refine ⟨⟨4, by omega, rfl, (jp.set_ne (by omega) 7 _).drew, (jq.set_ne (by omega) 7 _).drew, (j0.set 7 _).drew, (j1.set_ne (by omega) 7 _).drew, (jb.setCell (by simp) _).drew⟩, ?_⟩
              simp [intOf]
          · obtain rfl : k = 4 := by omega
            replace k0 : Blk wr w.heap.size 82 [.int .u32 (Sha.add32 a0 A), .int .u32 (Sha.add32 a1 B), .int .u32 (Sha.add32 a2 C), .int .u32 (Sha.add32 a3 D), .int .u32 (Sha.add32 a4 E), .int .u32 (Sha.add32 a5 F), .int .u32 (Sha.add32 a6 G), .int .u32 (Sha.add32 a7 H)] := k0
            go_wp2_with (first | (with_reducible refine at_op (.load 82 (.tmp 2)) rfl ?_; refine wpList_load_blk rfl 82 (.tmp 2) rfl w.heap.size ?cA 82 _ _ k0 Tryd.underlying82 rfl (by kernel_rfl) ?_; (case cA => simp [Act.eval]; done)) | (with_reducible refine at_op (.store 82 (.tmp 4) (.tmp 115)) rfl ?_; refine wpList_store_blk rfl 82 _ _ rfl (w.heap.size + 1) [.int .u32 (Sha.add32 a0 A), .int .u32 (Sha.add32 a1 B), .int .u32 (Sha.add32 a2 C), .int .u32 (Sha.add32 a3 D), .int .u32 (Sha.add32 a4 E), .int .u32 (Sha.add32 a5 F), .int .u32 (Sha.add32 a6 G), .int .u32 (Sha.add32 a7 H)] ?cC ?cD 82 _ k1 (by kernel_rfl) (by simp) (by simp [Value.oneCell']) ?_; (case cC => simp [Act.eval, Act.put]; done); (case cD => simp [Act.eval, Act.put]; done)))
            exact ret_blk rfl (w.heap.size + 1) _ _ _ rfl (k1.setRow _) Tryd.underlying82 rfl (by kernel_rfl) rfl ⟨by rw [hfin.out, Sha.addS_add]; rfl, below_setRow hb (by omega) _⟩
end Go.Proofs.YtbccfgeepdmegaaDoor
