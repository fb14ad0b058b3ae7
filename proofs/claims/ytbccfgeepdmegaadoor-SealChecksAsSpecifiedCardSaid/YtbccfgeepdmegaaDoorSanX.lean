/- Walk: sanity, the examples that every statement computes first. -/
import Derived.Test.YtbccfgeepdmegaaDoorSanW
set_option linter.unusedVariables false
set_option linter.unusedSimpArgs false
set_option linter.unnecessarySimpa false
namespace Go.Proofs.YtbccfgeepdmegaaDoor
open Go Go.RowKit Mem San
theorem veil_glk {d : Option Tmp} {x : Operand} {t : TypeId} {p : String} {af : Array Edge} {gd : Nat × Bool} {a : Act} {w : World} {K : Act → World → Prop} {Q : Exit → Act → World → Prop} : Oper.wp Tryd.prog ⟨d, .load 24 x, t, p, af, some gd⟩ a w K Q = Vlt Tryd.prog ⟨d, .load 24 x, t, p, af, none⟩ a w K Q := (show _ = Oper.wp Tryd.prog ⟨d, .load 24 x, t, p, af, none⟩ a w K Q from rfl).trans vl_eq
theorem veil_glseal {d : Option Tmp} {x : Operand} {t : TypeId} {p : String} {af : Array Edge} {gd : Nat × Bool} {a : Act} {w : World} {K : Act → World → Prop} {Q : Exit → Act → World → Prop} : Oper.wp Tryd.prog ⟨d, .load 43 x, t, p, af, some gd⟩ a w K Q = Vlt Tryd.prog ⟨d, .load 43 x, t, p, af, none⟩ a w K Q := (show _ = Oper.wp Tryd.prog ⟨d, .load 43 x, t, p, af, none⟩ a w K Q from rfl).trans vl_eq
theorem veil_gldig {d : Option Tmp} {x : Operand} {t : TypeId} {p : String} {af : Array Edge} {gd : Nat × Bool} {a : Act} {w : World} {K : Act → World → Prop} {Q : Exit → Act → World → Prop} : Oper.wp Tryd.prog ⟨d, .load 44 x, t, p, af, some gd⟩ a w K Q = Vlt Tryd.prog ⟨d, .load 44 x, t, p, af, none⟩ a w K Q := (show _ = Oper.wp Tryd.prog ⟨d, .load 44 x, t, p, af, none⟩ a w K Q from rfl).trans vl_eq
attribute [local go_sem ↓] Go.wp_at_zero Go.wp_at_succ veil_lk veil_sk veil_lseal veil_sseal veil_ldig veil_sdig veil_glk veil_glseal veil_gldig
theorem kA_eq : kC kA = [.int .i64 5, .int .i64 1, .string ⟨#[115]⟩, .int .i64 0, .int .i64 100] := rfl
theorem k0_eq : kC (key0 0 0) = [.int .i64 0, .int .i64 0, .string ⟨#[]⟩, .int .i64 0, .int .i64 0] := rfl
theorem kC2_eq : kC kC2 = [.int .i64 5, .int .i64 2, .string ⟨#[116]⟩, .int .i64 50, .int .i64 1048577] := rfl
set_option maxRecDepth 100000 in
set_option maxHeartbeats 32000000 in
theorem sanity_any (w : World) (hK : At w 0 0 (Sha.K.map vu32)) : Calls Tryd.prog 9 #[] w fun e w' => e = .returned (.bool true) ∧ Below w.heap.size w w' := by
  have hk5 := fun k => hide (kC_size k)
  have hkl := fun a b => hide (kC_len a b)
  have hko := fun k => hide (kC_ones k)
  have hX := Blk.new w (kC kA) 24
  have hb := (Below.refl w.heap.size w).alloc (Nat.le_refl _) (.cells (kC kA).toArray 24)
  have hKs := hide (hK.below hb)
  have eA := hide kA_eq
  have e0 := hide k0_eq
  have eC := hide kC2_eq
  have i1 := hide (d16_seal (mk_16 sS 7 [sX]))
  have i2 := hide (show (List.replicate 16 (Value.int .u8 0)).length = ((mk sS 7 [sX]).map vu8).length by rw [List.length_map, (mk_16 sS 7 [sX]).1]; rfl)
  have i3 := hide (vu8_ones (mk sS 7 [sX]))
  have j1 := hide (d16_dig (bl_16 sN [sX]))
  have j2 := hide (show (List.replicate 16 (Value.int .u8 0)).length = ((bl sN [sX]).map vu8).length by rw [List.length_map, (bl_16 sN [sX]).1]; rfl)
  have j3 := hide (vu8_ones (bl sN [sX]))
  replace hK := hide hK
  go_enter Tryd.func9, Tryd.ntmps9
  go_wp2_with fail
  refine vl_store w.heap.size 24 (kC kA) (kC (key0 0 0)) (by rfl) (by rfl) (Blk.new w _ _) (hk5 _).out (hkl _ _).out (hko _).out ?_
  rw [setRow_alloc]
  generalize w.alloc (.cells (kC kA).toArray 24) = W at *
  (try simp only [Act.put, List.setIfInBounds_toArray, List.set_cons_zero, List.set_cons_succ])
  go_wp2_with fail
  refine vl_load w.heap.size 24 (kC kA) _ (by rfl) hX Tryd.underlying24 (by rfl) (hk5 _).out ?_
  simp only [eA.out]
  (try simp only [Act.put, List.setIfInBounds_toArray, List.set_cons_zero, List.set_cons_succ])
  go_wp2_with fail
  have A1 := add_keys none 0 [] kA W (fun h => by simp [keysC] at h) (by intro i j a b _ h; simp at h) okA (by simp) (by simp) (by omega) (fun _ => rfl)
  rw [a1.1, a1.2] at A1
  refine A1.mono ?_
  clear A1
  rintro e w1 ⟨lv, rfl, ⟨L, cap, rfl, L1, q1, q2, q3⟩, hb1⟩
  have E1 : Env w w1 L cap := ⟨hX.ext hb1, L1, q1, q2, q3, hKs.out.below hb1, ext_trans hb hb1⟩
  clear hX hb hb1 L1 q1 q2 q3 hKs
  go_wp2_with fail
  refine vl_load w.heap.size 24 (kC kA) _ (by rfl) E1.box Tryd.underlying24 (by rfl) (hk5 _).out ?_
  simp only [eA.out]
  (try simp only [Act.put, List.setIfInBounds_toArray, List.set_cons_zero, List.set_cons_succ])
  go_wp2_with fail
  refine (s_add2 E1).mono ?_
  clear E1
  rintro e w2 ⟨v2, rfl, E2⟩
  go_wp2_with fail
  refine (s_add3 E2).mono ?_
  clear E2
  rintro e w3 ⟨v3, rfl, E3⟩
  go_wp2_with fail
  refine (s_cur1 E3).mono ?_
  rintro e w4 ⟨rfl, hb4⟩
  have E4 := E3.ext hb4
  clear E3 hb4
  unfold kV
  go_wp2_with fail
  refine vl_store w4.heap.size 24 (kC kA) (kC (key0 0 0)) (by rfl) (by rfl) (Blk.new w4 _ _) (hk5 _).out (hkl _ _).out (hko _).out ?_
  rw [setRow_alloc]
  have E5 := E4.alloc (.cells (kC kA).toArray 24)
  have X5 := Blk.new w4 (kC kA) 24
  generalize w4.alloc (.cells (kC kA).toArray 24) = w5 at *
  clear E4
  (try simp only [Act.put, List.setIfInBounds_toArray, List.set_cons_zero, List.set_cons_succ])
  go_wp2_with fail
  refine (s_cur2 E5).mono ?_
  rintro e w6 ⟨rfl, hb6⟩
  have E6 := E5.ext hb6
  have X6 := X5.ext hb6
  clear E5 hb6 X5
  unfold kV
  go_wp2_with fail
  refine vl_store w6.heap.size 24 (kC (key0 0 0)) (kC (key0 0 0)) (by rfl) (by rfl) (Blk.new w6 _ _) (hk5 _).out (hkl _ _).out (hko _).out ?_
  rw [setRow_alloc]
  have E7 := E6.alloc (.cells (kC (key0 0 0)).toArray 24)
  have X7 := X6.alloc (.cells (kC (key0 0 0)).toArray 24)
  generalize w6.alloc (.cells (kC (key0 0 0)).toArray 24) = w7 at *
  clear E6 X6
  (try simp only [Act.put, List.setIfInBounds_toArray, List.set_cons_zero, List.set_cons_succ])
  go_wp2_with fail
  refine (s_cur3 E7).mono ?_
  rintro e w8 ⟨rfl, hb8⟩
  have E8 := E7.ext hb8
  have X8 := X7.ext hb8
  clear E7 hb8 X7
  unfold kV
  go_wp2_with fail
  refine vl_store w8.heap.size 24 (kC (key0 0 0)) (kC (key0 0 0)) (by rfl) (by rfl) (Blk.new w8 _ _) (hk5 _).out (hkl _ _).out (hko _).out ?_
  rw [setRow_alloc]
  have E9 := E8.alloc (.cells (kC (key0 0 0)).toArray 24)
  have X9 := X8.alloc (.cells (kC (key0 0 0)).toArray 24)
  generalize w8.alloc (.cells (kC (key0 0 0)).toArray 24) = w9 at *
  clear E8 X8
  (try simp only [Act.put, List.setIfInBounds_toArray, List.set_cons_zero, List.set_cons_succ])
  go_wp2_with fail
  refine (s_rot E9).mono ?_
  rintro e w10 ⟨M, cm, rfl, M10, hb10⟩
  have E10 := E9.ext hb10
  have X10 := X9.ext hb10
  clear E9 hb10 X9
  go_wp2_with fail
  refine vl_load w4.heap.size 24 (kC kA) _ (by rfl) X10 Tryd.underlying24 (by rfl) (hk5 _).out ?_
  simp only [eA.out]
  (try simp only [Act.put, List.setIfInBounds_toArray, List.set_cons_zero, List.set_cons_succ])
  go_wp2_with fail
  refine vl_load w.heap.size 24 (kC kA) _ (by rfl) E10.box Tryd.underlying24 (by rfl) (hk5 _).out ?_
  simp only [eA.out]
  (try simp only [Act.put, List.setIfInBounds_toArray, List.set_cons_zero, List.set_cons_succ])
  go_wp2_with fail
  refine (s_ring M10).mono ?_
  rintro e w11 ⟨rfl, hb11⟩
  have E11 := E10.ext hb11
  have M11 := M10.below hb11
  clear E10 M10 X10 hb11
  obtain ⟨b, off, eM, hbl, hc0⟩ := M11.get (i := 0) (k := kA50) rfl
  obtain ⟨b', off', eM', _, hc1⟩ := M11.get (i := 1) (k := kC2) rfl
  rw [eM] at eM'
  cases eM'
  subst eM
  obtain ⟨p0, p1, p2, p3, p4⟩ := kcell hc0
  have p4' : w11.cell? ⟨b, off + 4, none⟩ = some (.int .i64 50) := by have h := p4; rw [Nat.zero_mul, Nat.add_zero] at h; exact h
  clear p0 p1 p2 p3 p4 hc0
  have hc1' : At w11 b (off + 5) (kC kC2) := by simpa using hc1
  clear hc1
  go_wp2_with fail
  refine vl_load_at b (off + 5) (kC kC2) _ (by rfl) hc1' Tryd.underlying24 (by rfl) (hk5 _).out ?_
  simp only [eC.out]
  (try simp only [Act.put, List.setIfInBounds_toArray, List.set_cons_zero, List.set_cons_succ])
  go_wp2_with fail
  clear hc1' p4' hbl M11
  refine vl_load w.heap.size 24 (kC kA) _ (by rfl) E11.box Tryd.underlying24 (by rfl) (hk5 _).out ?_
  simp only [eA.out]
  (try simp only [Act.put, List.setIfInBounds_toArray, List.set_cons_zero, List.set_cons_succ])
  go_wp2_with fail
  have E12 := E11.alloc (.cells #[.string ⟨#[120]⟩] 9)
  have R12 := Blk.new w11 [.string ⟨#[120]⟩] 9
  refine (s_make E12 R12).mono ?_
  rintro e w13 ⟨rfl, hb13⟩
  have E13 := E12.ext hb13
  clear E12 R12 E11 hb13
  go_wp2_with fail
  refine vl_store w13.heap.size 43 ((mk sS 7 [sX]).map vu8) (List.replicate 16 (.int .u8 0)) (by rfl) (by rfl) (Blk.new w13 _ _) i1.out i2.out i3.out ?_
  rw [setRow_alloc]
  have E14 := E13.alloc (.cells ((mk sS 7 [sX]).map vu8).toArray 43)
  have S14 := Blk.new w13 ((mk sS 7 [sX]).map vu8) 43
  generalize w13.alloc (.cells ((mk sS 7 [sX]).map vu8).toArray 43) = w14 at *
  clear E13
  (try simp only [Act.put, List.setIfInBounds_toArray, List.set_cons_zero, List.set_cons_succ])
  go_wp2_with fail
  have E15 := E14.alloc (.cells #[.string ⟨#[120]⟩] 9)
  have S15 := S14.alloc (.cells #[.string ⟨#[120]⟩] 9)
  have R15 := Blk.new w14 [.string ⟨#[120]⟩] 9
  refine vl_load w13.heap.size 43 ((mk sS 7 [sX]).map vu8) _ (by rfl) S15 Tryd.underlying43 (by rfl) i1.out ?_
  (try simp only [Act.put, List.setIfInBounds_toArray, List.set_cons_zero, List.set_cons_succ])
  go_wp2_with fail
  refine (s_check E15 ⟨#[120]⟩ (by decide) R15 99 0 (by omega) h1).mono ?_
  rintro e w15 ⟨rfl, hb15⟩
  have F15 := E15.ext hb15
  have T15 := S15.ext hb15
  clear E15 R15 S15 E14 S14 hb15
  go_wp2_with fail
  have E16 := F15.alloc (.cells #[.string ⟨#[121]⟩] 9)
  have S16 := T15.alloc (.cells #[.string ⟨#[121]⟩] 9)
  have R16 := Blk.new w15 [.string ⟨#[121]⟩] 9
  refine vl_load w13.heap.size 43 ((mk sS 7 [sX]).map vu8) _ (by rfl) S16 Tryd.underlying43 (by rfl) i1.out ?_
  (try simp only [Act.put, List.setIfInBounds_toArray, List.set_cons_zero, List.set_cons_succ])
  go_wp2_with fail
  refine (s_check E16 ⟨#[121]⟩ (by decide) R16 99 8 (by omega) h2).mono ?_
  rintro e w16 ⟨rfl, hb16⟩
  have F16 := E16.ext hb16
  have T16 := S16.ext hb16
  clear E16 R16 S16 F15 T15 hb16
  go_wp2_with fail
  have E17 := F16.alloc (.cells #[.string ⟨#[120]⟩] 9)
  have S17 := T16.alloc (.cells #[.string ⟨#[120]⟩] 9)
  have R17 := Blk.new w16 [.string ⟨#[120]⟩] 9
  refine vl_load w13.heap.size 43 ((mk sS 7 [sX]).map vu8) _ (by rfl) S17 Tryd.underlying43 (by rfl) i1.out ?_
  (try simp only [Act.put, List.setIfInBounds_toArray, List.set_cons_zero, List.set_cons_succ])
  go_wp2_with fail
  refine (s_check E17 ⟨#[120]⟩ (by decide) R17 100 9 (by omega) h3).mono ?_
  rintro e w17 ⟨rfl, hb17⟩
  have F17 := E17.ext hb17
  have T17 := S17.ext hb17
  clear E17 R17 S17 F16 T16 hb17
  go_wp2_with fail
  have E18 := F17.alloc (.cells #[.string ⟨#[120]⟩] 9)
  have R18 := Blk.new w17 [.string ⟨#[120]⟩] 9
  refine (s_blind E18 R18).mono ?_
  rintro e w18 ⟨rfl, hb18⟩
  have F18 := E18.ext hb18
  clear E18 R18 F17 T17 hb18
  go_wp2_with fail
  refine vl_store w18.heap.size 44 ((bl sN [sX]).map vu8) (List.replicate 16 (.int .u8 0)) (by rfl) (by rfl) (Blk.new w18 _ _) j1.out j2.out j3.out ?_
  rw [setRow_alloc]
  have E19 := F18.alloc (.cells ((bl sN [sX]).map vu8).toArray 44)
  have D19 := Blk.new w18 ((bl sN [sX]).map vu8) 44
  generalize w18.alloc (.cells ((bl sN [sX]).map vu8).toArray 44) = w19 at *
  clear F18
  (try simp only [Act.put, List.setIfInBounds_toArray, List.set_cons_zero, List.set_cons_succ])
  go_wp2_with fail
  refine vl_load w18.heap.size 44 ((bl sN [sX]).map vu8) _ (by rfl) D19 Tryd.underlying44 (by rfl) j1.out ?_
  (try simp only [Act.put, List.setIfInBounds_toArray, List.set_cons_zero, List.set_cons_succ])
  go_wp2_with fail
  have E20 := E19.alloc (.cells #[.string ⟨#[120]⟩] 9)
  have D20 := D19.alloc (.cells #[.string ⟨#[120]⟩] 9)
  have R20 := Blk.new w19 [.string ⟨#[120]⟩] 9
  refine (s_opens E20 ⟨#[110]⟩ (by decide) R20 true (decide_eq_true rfl)).mono ?_
  rintro e w20 ⟨rfl, hb20⟩
  have F20 := E20.ext hb20
  have T20 := D20.ext hb20
  clear E20 R20 D20 E19 D19 hb20
  go_wp2_with fail
  refine vl_load w18.heap.size 44 ((bl sN [sX]).map vu8) _ (by rfl) T20 Tryd.underlying44 (by rfl) j1.out ?_
  (try simp only [Act.put, List.setIfInBounds_toArray, List.set_cons_zero, List.set_cons_succ])
  go_wp2_with fail
  have E21 := F20.alloc (.cells #[.string ⟨#[120]⟩] 9)
  have R21 := Blk.new w20 [.string ⟨#[120]⟩] 9
  refine (s_opens E21 ⟨#[109]⟩ (by decide) R21 false (decide_eq_false b1)).mono ?_
  rintro e w21 ⟨rfl, hb21⟩
  have F21 := E21.ext hb21
  clear E21 R21 F20 T20 hb21
  go_wp2_with fail
  go_ret
  exact ⟨rfl, F21.lt⟩
end Go.Proofs.YtbccfgeepdmegaaDoor
