/- Walks: Begin, Stream.Sum. -/
import Derived.Test.YtbccfgeepdmegaaDoorHashC
import Derived.Test.YtbccfgeepdmegaaDoorWireA
import Derived.Test.YtbccfgeepdmegaaDoorMem2
set_option linter.unusedVariables false
set_option linter.unusedSimpArgs false
set_option linter.unnecessarySimpa false
namespace Go.Proofs.YtbccfgeepdmegaaDoor
open Go Go.RowKit Mem
theorem shr_byte (N k : Nat) : (N : Int) / 2 ^ k % 256 = (((N >>> k) % 256 : Nat) : Int) := by
  rw [Nat.shiftRight_eq_div_pow]; simp
theorem shr_len (N i : Nat) (hi : i ≤ 7) (w : World) : (Op.shift .shr .u64 (N : Int) .i64 (56 - 8 * (i : Int))).run Tryd.prog w = .ok (.int .u64 ((N >>> (56 - 8 * i) : Nat) : Int)) w := by
  rw [run_shr _ _ _ _ _ _ (by omega)]
  congr 2
  rw [show (56 - 8 * (i : Int)).toNat = 56 - 8 * i by omega, show min (56 - 8 * i) IntKind.u64.bits = 56 - 8 * i by simp only [IntKind.bits]; omega, Nat.shiftRight_eq_div_pow, Int.fdiv_eq_ediv_of_nonneg _ (by exact_mod_cast Nat.zero_le _)]
  simp
theorem shr_word (x i : Nat) (w : World) : (Op.shift .shr .u32 (x : Int) .i64 (24 - 8 * ((i : Int) % 4))).run Tryd.prog w = .ok (.int .u32 ((x >>> (24 - 8 * (i % 4)) : Nat) : Int)) w := by
  rw [run_shr _ _ _ _ _ _ (by omega)]
  congr 2
  rw [show (24 - 8 * ((i : Int) % 4)).toNat = 24 - 8 * (i % 4) by omega, show min (24 - 8 * (i % 4)) IntKind.u32.bits = 24 - 8 * (i % 4) by simp only [IntKind.bits]; omega, Nat.shiftRight_eq_div_pow, Int.fdiv_eq_ediv_of_nonneg _ (by exact_mod_cast Nat.zero_le _)]
  simp
theorem stC_word (st : Sha.St) (k : Nat) (h : k < 8) : (stC st)[k]? = some (.int .u32 (st.s.list.getD k 0 : Nat)) := by
  unfold stC
  rw [List.getElem?_append_left (by simpa [Sha.S8.list] using h), List.getElem?_map, List.getD_eq_getElem?_getD, List.getElem?_eq_getElem (by simpa [Sha.S8.list] using h)]
  rfl
theorem pad_test (n j : Nat) (hn : n < 2305843009213693951) (hj : j < 64) : (wrap64 ((n : Int) + ((j : Int) + 1))).tmod 64 = (((n + (j + 1)) % 64 : Nat) : Int) := by
  have e : wrap64 ((n : Int) + ((j : Int) + 1)) = (n : Int) + ((j : Int) + 1) := by unfold wrap64; omega
  rw [e, Int.tmod_eq_emod_of_nonneg (by omega)]; omega
set_option maxRecDepth 100000 in
set_option maxHeartbeats 2000000 in
theorem begin_any (w : World) : Calls Tryd.prog 52 #[] w fun e w' => e = .returned (.agg (stC Sha.st0).toArray) ∧ Below w.heap.size w w' := by
  go_enter Tryd.func52, Tryd.ntmps52
  go_wp2_with ((refine at_op (.store 86 (.tmp 0) (.tmp 2)) (by with_reducible rfl) ?_); refine wpList_store_blk rfl 86 (.tmp 0) (.tmp 2) rfl w.heap.size (stC Sha.st0) ?cC ?cD 86 Tryd.zeroCells86.toList (Blk.new w Tryd.zeroCells86.toList 86) (by kernel_rfl) (by kernel_rfl) (by kernel_rfl) ?_; (case cC => simp [Act.eval]; done); (case cD => kernel_rfl))
  exact ret_blk rfl w.heap.size _ _ _ rfl ((Blk.new w Tryd.zeroCells86.toList 86).setRow _) Tryd.underlying86 rfl (by kernel_rfl) rfl ⟨rfl, below_setRow ((Below.refl _ _).alloc (Nat.le_refl _) _) (Nat.le_refl _) _⟩
set_option maxRecDepth 100000 in
set_option maxHeartbeats 2000000 in
theorem sum_any (st : Sha.St) (w : World) (hst : st.ok) (hn : st.n < 2305843009213693951) (hK : At w 0 0 (Sha.K.map vu32)) :
    Calls Tryd.prog 55 #[.agg (stC st).toArray] w fun e w' => e = .returned (.agg ((Sha.fin st).map vu8).toArray) ∧ Below w.heap.size w w' := by
  have hlen := stC_length st hst.2.1
  have e72 := stC_n st hst.2.1
  obtain ⟨N8, hN8⟩ : ∃ N8, N8 = 8 * st.n := ⟨_, rfl⟩
  have hN8I : 8 * (st.n : Int) = (N8 : Int) := by omega
  have hnI : IntKind.i64.wrap (st.n : Int) = (st.n : Int) := i64_id _ (by omega)
  have hw8 := wrap_u64_id (N8 : Int) (by omega) (by omega)
  replace hN8 := hide hN8
  replace hst := hide hst
  replace hK := hide hK
  replace hn := hide hn
  replace hlen := hide hlen
  obtain ⟨i0, hi, hi0, hi1, hi2⟩ := info_parts info_u8
  replace hi := hide hi
  replace hi0 := hide hi0
  replace hi1 := hide hi1
  replace hi2 := hide hi2
  go_enter Tryd.func55, Tryd.ntmps55
  go_wp2_with fail
  have b0 : Below w.heap.size w (((w.alloc (.cells (stC st).toArray 86)).alloc (.cells (List.replicate 32 (Value.int .u8 0)).toArray 91)).alloc (.cells #[.int .u8 128] 5)) := (((Below.refl _ _).alloc (Nat.le_refl _) _).alloc (by simp) _).alloc (by simp; omega) _
  go_loopw [4] (fun b wr => ∃ (j : Nat) (v : Value), j ≤ Sha.padz st.n ∧ b = v ∧ wr.ownsRow (w.heap.size + 2) 5 1 v (j + 1) ((128 :: List.replicate j 0).map vu8) ∧ Blk wr w.heap.size 86 (stC st) ∧ Blk wr (w.heap.size + 1) 91 (List.replicate 32 (.int .u8 0)) ∧ Below w.heap.size w wr) (fun b _ => match b with | .slice _ n _ => 64 - n | _ => 0)
  case atStart => 
    refine ⟨0, _, Nat.zero_le _, rfl, ?_, ?_, ?_, ?_⟩
    · exact ⟨rfl, .inr ⟨w.heap.size + 2, 1, #[.int .u8 128], rfl, Nat.le_refl _, blk_new2 w _ _ [.int .u8 128] 5, by decide, by decide, rfl, rfl⟩⟩
    · exact ((Blk.new w _ _).alloc _).alloc _
    · exact (blk_new1 w _ (List.replicate 32 (.int .u8 0)) _).alloc _
    · exact b0
  case round =>
    obtain ⟨j, v, hj, rfl, hown, k0, k1, hb⟩ := hrel
    obtain ⟨g, cap, rfl, hc1, hc2, hg1, hg2, hat⟩ := own_at hown (by omega)
    have hpz := Sha.padz_lt st.n
    have hbs := hb.size
    unfold maxLen at hc2
    have cn := k0.cell e72
    replace hbs := hide hbs
    clear hat
    have hw := pad_test st.n j hn.out (by omega)
    by_cases hjz : j = Sha.padz st.n
    · have hI : ((wrap64 ((st.n : Int) + ((j : Int) + 1))).tmod 64 != 56) = false := by rw [hw, (Sha.padz_iff st.n j hj).2 hjz]; decide
      clear hw
      replace hjz := hide hjz
      go_wp2_with fail
      obtain ⟨wo, rfl⟩ : ∃ wo : World, wo = wr := ⟨_, rfl⟩
      go_loopw [4, 23] (fun b a wr => ∃ (i : Nat) (v : Value), i ≤ 8 ∧ a = .int .i64 i ∧ b = v ∧ wr.ownsRow (w.heap.size + 2) 5 1 v (j + 1 + i) ((128 :: List.replicate j 0 ++ (Sha.lenB N8).take i).map vu8) ∧ Blk wr w.heap.size 86 (stC st) ∧ Blk wr (w.heap.size + 1) 91 (List.replicate 32 (.int .u8 0)) ∧ Below w.heap.size w wr) (fun _ a _ => 8 - (intOf a).toNat)
      case atStart => exact ⟨0, _, Nat.zero_le _, rfl, rfl, by simpa using hown, k0, k1, hb⟩
      case round =>
        clear hown k0 k1 hb hbs hg1 hg2 hc1 hc2 cn
        obtain ⟨i, v, hi8, rfl, rfl, hown, k0, k1, hb⟩ := hrel
        have hbs := hide hb.size
        by_cases hlt : i < 8
        · have hsh := fun w => shr_len N8 i (by omega) w
          have hk1 := hide k1.lt
          go_wp2_with (at_builtin; refine wpList_append_own _ rfl (.tmp 26) (.tmp 33) 89 rfl (w.heap.size + 2) 5 i0 (.int .u8 0) 1 1 Tryd.underlying89 hi.out hi0.out hi1.out hi2.out rfl (by decide) _ _ _ rfl (hown.alloc _) ⟨wr.heap.size, 0, none⟩ 1 1 [.int .u8 ((N8 : Int) / 2 ^ (56 - 8 * i) % 256)] rfl rfl ?c1 ?c2 ?c3 ?c4 ?c5 ?_; (case c1 => exact cell_new1 _ _ _); (case c2 => simp [Value.oneCell']); (case c3 => simp only [maxLen]; omega); (case c4 => omega); (case c5 => have := hk1.out; simp; omega); intro v1 w1 hown1 hg1 _)
          rw [shr_byte N8 (56 - 8 * i)] at hown1
          obtain ⟨g1, cap1, rfl, _, _, _, _, _⟩ := own_at hown1 (by omega)
          go_roundw
          case rel =>
            refine ⟨i + 1, _, by omega, by go_num, rfl, ?_, own_blk k0 hown hg1 (by omega), own_blk k1 hown hg1 (by omega), own_grown' hb hbs.out hown hg1 (by omega)⟩
            rw [Sha.lenB_take N8 i hlt, ← List.append_assoc, List.map_append]; exact hown1
          case measure => simp [intOf]; omega
        · obtain rfl : i = 8 := by omega
          have hpad : (128 :: List.replicate j 0 ++ (Sha.lenB N8).take 8) = Sha.pad st.n := by
            rw [Sha.pad_eq, hN8.out, hjz.out, List.take_of_length_le (by rw [Sha.lenB_length]; exact Nat.le_refl _)]; rfl
          have hpl : (Sha.pad st.n).length = j + 1 + 8 := by rw [Sha.pad_length, hjz.out]; omega
          rw [hpad, ← hpl] at hown
          have hcv := conv_own (P := Tryd.prog) Tryd.underlying89 Tryd.underlying5 Tryd.underlying9 hown (by omega)
          have hL : (Tryd.prog.info? 86).map (·.size) = some (stC st).length := by rw [hlen.out]; kernel_rfl
          have hadd := add_any st (Str (Sha.pad st.n)) wr hst.out (by rw [Str_size]; have := hn.out; omega) (hK.out.below hb)
          rw [Bs_Str _ (Sha.pad_lt _)] at hadd
          have hso2 : (Sha.feed st (Sha.pad st.n)).ok := Sha.feed_ok hst.out (Sha.pad_lt _)
          obtain ⟨st2, hst2⟩ : ∃ st2, st2 = Sha.feed st (Sha.pad st.n) := ⟨_, rfl⟩
          rw [← hst2] at hadd hso2
          replace hst2 := hide hst2
          have hlen2 := stC_length st2 hso2.2.1
          have hL2 : (Tryd.prog.info? 86).map (·.size) = some (stC st2).length := by rw [hlen2]; kernel_rfl
          have hL3 : (stC st).length = (stC st2).length := by rw [hlen2, hlen.out]
          have hL4 : (stC st2).all (·.oneCell') = true := by simp [stC, vu32, vu8, Value.oneCell']
          replace hlen2 := hide hlen2
          replace hL2 := hide hL2
          replace hL3 := hide hL3
          replace hL4 := hide hL4
          replace hadd := hide hadd
          replace hpl := hide hpl
          replace hpad := hide hpad
          replace hL := hide hL
          replace hown := hide hown
          go_wp2_with (first | ((refine at_op (.load 86 (.tmp 1)) (by with_reducible rfl) ?_); refine wpList_load_blk rfl 86 (.tmp 1) rfl w.heap.size ?cA 86 _ _ k0 Tryd.underlying86 rfl hL.out ?_; (case cA => simp [Act.eval]; done)) | (go_at_call 53; refine hadd.out.mono ?_; rintro e w2 ⟨rfl, hb2⟩; have hbb := hb.trans (hb2.mono hbs.out); have m0 := k0.below hb2 k0.lt; have m1 := k1.below hb2 k1.lt; clear k0 k1 hb hb2) | ((refine at_op (.store 86 (.tmp 1) (.tmp 39)) (by with_reducible rfl) ?_); refine wpList_store_blk rfl 86 (.tmp 1) (.tmp 39) rfl w.heap.size (stC st2) ?cC ?cD 86 _ m0 hL2.out hL3.out hL4.out ?_; (case cC => simp [Act.eval, Act.put]; done); (case cD => simp [Act.eval, Act.put]; done); (have p0 := m0.setRow (stC st2)); (have p1 := m1.setRow_ne (b' := w.heap.size) (by omega) (stC st2).toArray); (have pb := below_setRow hbb (Nat.le_refl _) (stC st2).toArray); generalize w2.setRow w.heap.size (stC st2).toArray = w3 at *; clear m0 m1 hbb))
          have q0 := p0.alloc (.cells (List.replicate 32 (.int .u8 0)).toArray 91)
          have q1 := p1.alloc (.cells (List.replicate 32 (.int .u8 0)).toArray 91)
          have q2 := Blk.new w3 (List.replicate 32 (.int .u8 0)) 91
          have qb := pb.alloc pb.size (.cells (List.replicate 32 (.int .u8 0)).toArray 91)
          have hq : w.heap.size + 1 < w3.heap.size := p1.lt
          go_loopw [40] (fun a wr => ∃ i : Nat, i ≤ 32 ∧ a = .int .i64 i ∧ Blk wr w3.heap.size 91 (fill (fun i => .int .u8 (st2.s.list.getD (i / 4) 0 >>> (24 - 8 * (i % 4)) % 256 : Nat)) (.int .u8 0) 32 i) ∧ Blk wr w.heap.size 86 (stC st2) ∧ Blk wr (w.heap.size + 1) 91 (List.replicate 32 (.int .u8 0)) ∧ Below w.heap.size w wr) (fun a _ => 32 - (intOf a).toNat)
          case atStart => exact ⟨0, by omega, rfl, by rw [fill_zero]; exact q2, q0, q1, qb⟩
          case round =>
            clear q0 q1 q2 qb p0 p1 pb
            obtain ⟨i, hi32, rfl, q2, q0, q1, qb⟩ := hrel
            by_cases hlt : i < 32
            · have hcw := q0.cell (stC_word st2 (i / 4) (by omega))
              have hsh := fun w => shr_word (st2.s.list.getD (i / 4) 0) i w
              have hfr := q2.frozen i
              have hct := q2.cell (fill_get _ _ _ i i hlt)
              rw [if_neg (Nat.lt_irrefl i)] at hct
              have hset := hide (fill_set (fun i => .int .u8 (st2.s.list.getD (i / 4) 0 >>> (24 - 8 * (i % 4)) % 256 : Nat)) (.int .u8 0) 32 i hlt)
              obtain ⟨x, hx⟩ : ∃ x, x = st2.s.list.getD (i / 4) 0 := ⟨_, rfl⟩
              rw [← hx] at hcw
              replace hsh : ∀ w, (Op.shift .shr .u32 (x : Int) .i64 (24 - 8 * ((i : Int) % 4))).run Tryd.prog w = .ok (.int .u32 ((x >>> (24 - 8 * (i % 4)) : Nat) : Int)) w := by rw [hx]; exact hsh
              replace hx := hide hx
              have i1 : (i : Int) / 4 < 8 := by omega
              have i2 : (0 : Int) ≤ (i : Int) / 4 := by omega
              go_wp2_with fail
              rw [shr_byte x]
              go_roundw
              case rel =>
                refine ⟨i + 1, by omega, by go_num, ?_, q0.set_ne (by omega) _ _, q1.set_ne (by omega) _ _, qb.setCell (by simp; omega) _⟩
                have h := q2.set i (.int .u8 ((x >>> (24 - 8 * (i % 4)) % 256 : Nat) : Int))
                rw [← hset.out]
                rw [hx.out] at h ⊢
                exact h
              case measure => simp [intOf]; omega
            · obtain rfl : i = 32 := by omega
              rw [fill_full] at q2
              have hfin : (List.range 32).map (fun i => (Value.int .u8 (st2.s.list.getD (i / 4) 0 >>> (24 - 8 * (i % 4)) % 256 : Nat))) = (Sha.fin st).map vu8 := by
                rw [Sha.fin_eq, ← hst2.out, Sha.outB_eq, List.map_map]; rfl
              rw [hfin] at q2
              have hF : (Sha.fin st).length = 32 := by rw [Sha.fin_eq, Sha.outB_length]
              have hL5 : (Tryd.prog.info? 91).map (·.size) = some ((Sha.fin st).map vu8).length := by rw [List.length_map, hF]; kernel_rfl
              have hL6 : (List.replicate 32 (Value.int .u8 0)).length = ((Sha.fin st).map vu8).length := by rw [List.length_map, hF]; simp
              have hL7 : ((Sha.fin st).map vu8).all (·.oneCell') = true := by simp [vu8, Value.oneCell']
              clear hfin hF
              generalize hLf : (Sha.fin st).map vu8 = Lf at *
              replace hLf := hide hLf
              replace hL5 := hide hL5
              replace hL6 := hide hL6
              replace hL7 := hide hL7
              go_wp2_with (first | ((refine at_op (.load 91 (.tmp 6)) (by with_reducible rfl) ?_); refine wpList_load_blk rfl 91 (.tmp 6) rfl w3.heap.size ?cA 91 _ _ q2 Tryd.underlying91 rfl hL5.out ?_; (case cA => simp [Act.eval]; done)) | ((refine at_op (.store 91 (.tmp 2) (.tmp 57)) (by with_reducible rfl) ?_); refine wpList_store_blk rfl 91 (.tmp 2) (.tmp 57) rfl (w.heap.size + 1) Lf ?cC ?cD 91 _ q1 hL5.out hL6.out hL7.out ?_; (case cC => simp [Act.eval, Act.put]; done); (case cD => simp [Act.eval, Act.put]; done)))
              exact ret_blk rfl (w.heap.size + 1) _ _ _ rfl (q1.setRow _) Tryd.underlying91 rfl hL5.out rfl ⟨by rw [hLf.out], below_setRow qb (by omega) _⟩
    · have hI : ((wrap64 ((st.n : Int) + ((j : Int) + 1))).tmod 64 != 56) = true := by
        rw [hw, bne_iff_ne]
        intro h
        exact hjz ((Sha.padz_iff st.n j hj).1 (Int.ofNat.inj h))
      clear hw
      have hlt : j < Sha.padz st.n := by omega
      clear hjz
      go_wp2_with (at_builtin; refine wpList_append_own _ rfl (.tmp 20) (.tmp 21) 89 rfl (w.heap.size + 2) 5 i0 (.int .u8 0) 1 1 Tryd.underlying89 hi.out hi0.out hi1.out hi2.out rfl (by decide) _ _ _ rfl (hown.alloc _) ⟨wr.heap.size, 0, none⟩ 1 1 [.int .u8 0] rfl rfl ?c1 ?c2 ?c3 ?c4 ?c5 ?_; (case c1 => exact cell_new1 _ _ _); (case c2 => simp [Value.oneCell']); (case c3 => simp only [maxLen]; omega); (case c4 => omega); (case c5 => simp; omega); intro v1 w1 hown1 hg1 _)
      obtain ⟨g1, cap1, rfl, _, _, _, _, _⟩ := own_at hown1 (by omega)
      go_roundw
      case rel =>
        refine ⟨j + 1, _, by omega, rfl, ?_, own_blk k0 hown hg1 (by omega), own_blk k1 hown hg1 (by omega), own_grown' hb hbs.out hown hg1 (by omega)⟩
        rw [List.replicate_succ', ← List.cons_append, List.map_append]; exact hown1
      case measure => simp; omega
end Go.Proofs.YtbccfgeepdmegaaDoor
