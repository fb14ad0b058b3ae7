/- Walk: hash.Of. -/
import Derived.Test.YtbccfgeepdmegaaDoorHashD
import Derived.Test.YtbccfgeepdmegaaDoorOf0
import Derived.Test.YtbccfgeepdmegaaDoorVeil
set_option linter.unusedVariables false
set_option linter.unusedSimpArgs false
set_option linter.unnecessarySimpa false
namespace Go.Proofs.YtbccfgeepdmegaaDoor
open Go Go.RowKit Mem
theorem store_stC (st : Sha.St) (h : st.blk.length = 64) (W : World) (g : Nat) (hg : W.heap[g]? = some (.cells Tryd.zeroCells86 86 (0, 0))) :
    (storeCells ⟨g, 0, none⟩ (stC st)).run Tryd.prog W = .ok () (W.setRow g (stC st).toArray) := by
  have hz : Tryd.zeroCells86.size = 73 := by kernel_rfl
  have hl := stC_length st h
  have := run_storeCells_at Tryd.prog g 0 86 (stC st) 0 Tryd.zeroCells86 W hg (by rw [hl, hz]; exact Nat.le_refl _) (fun v hv => by
    simp only [stC, List.mem_append, List.mem_map, List.mem_singleton] at hv
    rcases hv with ⟨x, _, rfl⟩ | ⟨x, _, rfl⟩ | rfl <;> rfl)
  rw [this, hl, List.drop_eq_nil_of_le (by simpa using Nat.le_of_eq hz)]
  simp
theorem zero_at (W : World) (k : Nat) (o : Option Obj) (o' : Option Obj) (h : W.heap[k]? = o) : W.drew.heap[k]? = o := h
theorem heap_alloc3_new (w : World) (A B C : Obj) : (((w.alloc A).alloc B).alloc C).heap[w.heap.size + 2]? = some C := by
  have := heap_alloc_new ((w.alloc A).alloc B) C
  simpa using this
theorem kept3 {w w1 : World} {A B C : Obj} (h : Below (((w.alloc A).alloc B).alloc C).drew.heap.size (((w.alloc A).alloc B).alloc C).drew w1) : w1.heap[w.heap.size + 2]? = some C :=
  (h.block _ (by show w.heap.size + 2 < (((w.alloc A).alloc B).alloc C).heap.size; simp)).trans (heap_alloc3_new w A B C)
theorem heap_alloc3_mid (w : World) (A B C : Obj) : (((w.alloc A).alloc B).alloc C).heap[w.heap.size + 1]? = some B := by
  rw [Below.heap_alloc _ _ _ (by simp)]; exact heap_alloc2_new _ _ _
theorem kept2 {w w1 : World} {A B : Obj} (h : Below ((w.alloc A).alloc B).drew.heap.size ((w.alloc A).alloc B).drew w1) : w1.heap[w.heap.size + 1]? = some B :=
  (h.block _ (by show w.heap.size + 1 < ((w.alloc A).alloc B).heap.size; simp)).trans (heap_alloc2_new w A B)
theorem kept3m {w w1 : World} {A B C : Obj} (h : Below (((w.alloc A).alloc B).alloc C).drew.heap.size (((w.alloc A).alloc B).alloc C).drew w1) : w1.heap[w.heap.size + 1]? = some B :=
  (h.block _ (by show w.heap.size + 1 < (((w.alloc A).alloc B).alloc C).heap.size; simp)).trans (heap_alloc3_mid w A B C)
theorem cell_of {W : World} {k t : Nat} {v : Value} (h : W.heap[k]? = some (.cells #[v] t (0, 0))) : W.cell? ⟨k, 0, none⟩ = some v :=
  Blk.cell (show Blk W k t [v] from h) rfl
theorem keptA {w w' : World} {k : Nat} {o : Option Obj} (h : Below w.heap.size w w') (hk : k < w.heap.size) (hy : w.heap[k]? = o) : w'.heap[k]? = o := (h.block _ hk).trans hy
theorem keptB {w w' : World} {X : Obj} {k : Nat} {o : Option Obj} (h : Below (w.alloc X).heap.size (w.alloc X) w') (hk : k < w.heap.size) (hy : w.heap[k]? = o) : w'.heap[k]? = o :=
  (h.block _ (by simp; omega)).trans ((Below.heap_alloc _ _ _ hk).trans hy)
theorem keptC {w w' : World} {X Y : Obj} {k : Nat} {o : Option Obj} (h : Below ((w.alloc X).alloc Y).heap.size ((w.alloc X).alloc Y) w') (hk : k < w.heap.size) (hy : w.heap[k]? = o) : w'.heap[k]? = o :=
  (h.block _ (by simp; omega)).trans ((Below.heap_alloc _ _ _ (by simp; omega)).trans ((Below.heap_alloc _ _ _ hk).trans hy))
theorem newA {w w' : World} {X : Obj} (h : Below (w.alloc X).heap.size (w.alloc X) w') : w'.heap[w.heap.size]? = some X := (h.block _ (by simp)).trans (heap_alloc_new _ _)
theorem newB0 {w w' : World} {X Y : Obj} (h : Below ((w.alloc X).alloc Y).heap.size ((w.alloc X).alloc Y) w') : w'.heap[w.heap.size]? = some X :=
  (h.block _ (by simp; omega)).trans (heap_alloc2_old _ _ _)
theorem newB1 {w w' : World} {X Y : Obj} (h : Below ((w.alloc X).alloc Y).heap.size ((w.alloc X).alloc Y) w') : w'.heap[w.heap.size + 1]? = some Y :=
  (h.block _ (by simp)).trans (heap_alloc2_new _ _ _)
theorem conv1 (W : World) (g : Nat) (v : Nat) (hv : v < 256) (h : W.cell? ⟨g, 0, none⟩ = some (.int .u8 v)) : (convert 89 9 (.slice (some ⟨g, 0, none⟩) 1 1)).run Tryd.prog W = .ok (.string (Str [v])) W :=
  conv_at (l := [v]) Tryd.underlying89 Tryd.underlying5 Tryd.underlying9 (fun i u hi => by
    cases i with
    | zero => simp at hi; subst hi; exact h
    | succ i => simp at hi)
theorem run_loadCells_stC (st : Sha.St) (h : st.blk.length = 64) (W : World) (g : Nat) (hg : Blk W g 86 (stC st)) : (loadCells ⟨g, 0, none⟩ 73).run Tryd.prog W = .ok (stC st).toArray W := by
  have := run_loadCells_list (P := Tryd.prog) W ⟨g, 0, none⟩ (stC st) (fun j v hv => by
      have hadd : (⟨g, 0, none⟩ : Addr).add j = ⟨g, j, none⟩ := by unfold Addr.add; split <;> simp_all
      rw [hadd]; exact hg.cell hv)
  rw [stC_length st h] at this; exact this
theorem run_load_stC (st : Sha.St) (h : st.blk.length = 64) (W : World) (g : Nat) (hg : Blk W g 86 (stC st)) : (loadVar 86 ⟨g, 0, none⟩).run Tryd.prog W = .ok (.agg (stC st).toArray) W :=
  run_loadVar_at Tryd.prog W g 0 86 (stC st) _ (fun i v hi => by rw [Nat.zero_add]; exact hg.cell hi) Tryd.underlying86 rfl (by rw [stC_length st h]; kernel_rfl)
theorem store_stC2 (st st' : Sha.St) (h : st.blk.length = 64) (h' : st'.blk.length = 64) (W : World) (g : Nat) (hg : Blk W g 86 (stC st)) :
    (storeCells ⟨g, 0, none⟩ (stC st')).run Tryd.prog W = .ok () (W.setRow g (stC st').toArray) := by
  have hl := stC_length st h
  have hl' := stC_length st' h'
  have := run_storeCells_at Tryd.prog g 0 86 (stC st') 0 (stC st).toArray W hg (by simp [hl, hl']) (fun v hv => by
    simp only [stC, List.mem_append, List.mem_map, List.mem_singleton] at hv
    rcases hv with ⟨x, _, rfl⟩ | ⟨x, _, rfl⟩ | rfl <;> rfl)
  rw [this, hl', List.drop_eq_nil_of_le (by simp [hl])]
  simp
theorem stC_ones (st : Sha.St) : ones (stC st) := fun v hv => by
    simp only [stC, List.mem_append, List.mem_map, List.mem_singleton] at hv
    rcases hv with ⟨x, _, rfl⟩ | ⟨x, _, rfl⟩ | rfl <;> rfl
theorem bytes_pos (l : List Nat) : 0 < (Wire.bytes l).length := Wire.bytes_pos l
theorem parts_le (ps : List (List Nat)) : ps.length ≤ (ps.flatMap Wire.bytes).length := by
  induction ps with
  | nil => simp
  | cons a l ih => rw [List.flatMap_cons, List.length_append, List.length_cons]; have := bytes_pos a; omega
theorem inp_take_le (tag : Int) (parts : List (List Nat)) (j : Nat) : (Sha.inp tag (parts.take j)).length ≤ (Sha.inp tag parts).length := by
  have e : Sha.inp tag parts = Sha.inp tag (parts.take j) ++ (parts.drop j).flatMap Wire.bytes := by
    rw [Sha.inp_eq, Sha.inp_eq, List.cons_append, ← List.flatMap_append, List.take_append_drop]
  rw [e, List.length_append]; omega
theorem veil_ls {d : Option Tmp} {x : Operand} {t : TypeId} {p : String} {af : Array Edge} {a : Act} {w : World} {K : Act → World → Prop} {Q : Exit → Act → World → Prop} : Oper.wp Tryd.prog ⟨d, .load 86 x, t, p, af, none⟩ a w K Q = Vlt Tryd.prog ⟨d, .load 86 x, t, p, af, none⟩ a w K Q := vl_eq
theorem veil_ss {d : Option Tmp} {x y : Operand} {t : TypeId} {p : String} {af : Array Edge} {a : Act} {w : World} {K : Act → World → Prop} {Q : Exit → Act → World → Prop} : Oper.wp Tryd.prog ⟨d, .store 86 x y, t, p, af, none⟩ a w K Q = Vlt Tryd.prog ⟨d, .store 86 x y, t, p, af, none⟩ a w K Q := vl_eq
theorem veil_s32 {d : Option Tmp} {x y : Operand} {t : TypeId} {p : String} {af : Array Edge} {a : Act} {w : World} {K : Act → World → Prop} {Q : Exit → Act → World → Prop} : Oper.wp Tryd.prog ⟨d, .store 91 x y, t, p, af, none⟩ a w K Q = Vlt Tryd.prog ⟨d, .store 91 x y, t, p, af, none⟩ a w K Q := vl_eq
theorem veil_ld {d : Option Tmp} {x : Operand} {t : TypeId} {p : String} {af : Array Edge} {a : Act} {w : World} {K : Act → World → Prop} {Q : Exit → Act → World → Prop} : Oper.wp Tryd.prog ⟨d, .load 44 x, t, p, af, none⟩ a w K Q = Vlt Tryd.prog ⟨d, .load 44 x, t, p, af, none⟩ a w K Q := vl_eq
theorem veil_sd {d : Option Tmp} {x y : Operand} {t : TypeId} {p : String} {af : Array Edge} {a : Act} {w : World} {K : Act → World → Prop} {Q : Exit → Act → World → Prop} : Oper.wp Tryd.prog ⟨d, .store 44 x y, t, p, af, none⟩ a w K Q = Vlt Tryd.prog ⟨d, .store 44 x y, t, p, af, none⟩ a w K Q := vl_eq
attribute [local go_sem ↓] Go.wp_at_zero Go.wp_at_succ veil_ls veil_ss veil_s32 veil_ld veil_sd
set_option maxRecDepth 100000 in
set_option maxHeartbeats 8000000 in
theorem of_any (tag : Int) (A : Option Addr) (cap : Nat) (ps : List ByteArray) (w : World) (hp : Rd w A (ps.map .string)) (hps : ∀ p ∈ ps, p.size ≤ 140737488351232) (hlen : (Sha.inp tag (ps.map Bs)).length < 1152921504606846975) (hK : At w 0 0 (Sha.K.map vu32)) :
    Calls Tryd.prog 42 #[.int .i64 tag, .slice A ps.length cap] w fun e w' => e = .returned (.agg ((Sha.dig tag (ps.map Bs)).map vu8).toArray) ∧ Below w.heap.size w w' := by
  have hpl : ps.length < 1152921504606846975 := by
    have h1 := parts_le (ps.map Bs)
    rw [Sha.inp_eq, List.length_cons] at hlen
    rw [List.length_map] at h1; omega
  replace hp := hide hp
  replace hps := hide hps
  replace hK := hide hK
  replace hlen := hide hlen
  obtain ⟨tg, htg⟩ : ∃ tg, tg = (tag % 256).toNat := ⟨_, rfl⟩
  have htI : tag % 256 = (tg : Int) := by omega
  have htl : tg < 256 := by omega
  have htW : IntKind.u8.wrap tag = (tg : Int) := by rw [IntKind.wrap_u8]; exact htI
  replace htg := hide htg
  have hcv := fun W g h => conv1 W g tg htl h
  go_enter Tryd.func42, Tryd.ntmps42
  go_upto_region 1 with fail
  have d0 := Blk.new w (List.replicate 16 (.int .u8 0)) 44
  have db := (Below.refl w.heap.size w).alloc (Nat.le_refl _) (.cells (List.replicate 16 (.int .u8 0)).toArray 44)
  have hK0 := hK.out.alloc (.cells (List.replicate 16 (.int .u8 0)).toArray 44)
  go_outline
  go_cut [5] (fun s5 wx => ∃ g : Nat, s5 = .pointer (some ⟨g, 0, none⟩) ∧ Blk wx w.heap.size 44 (List.replicate 16 (.int .u8 0)) ∧ Blk wx g 86 (stC (Sha.feed Sha.st0 [tg])) ∧ w.heap.size < g ∧ Below w.heap.size w wx)
  case first =>
    have st1ok : (Sha.feed Sha.st0 [tg]).ok := Sha.feed_ok Sha.st0_ok (by simp; exact htl)
    have hB : Bs (Str [tg]) = [tg] := Bs_Str _ (by simp; exact htl)
    have hadd := fun W h => add_any Sha.st0 (Str [tg]) W Sha.st0_ok (by rw [Str_size]; simp [Sha.st0]) h
    rw [hB] at hadd
    obtain ⟨st1, hst1⟩ : ∃ st1, st1 = Sha.feed Sha.st0 [tg] := ⟨_, rfl⟩
    rw [← hst1] at hadd st1ok
    replace hst1 := hide hst1
    have hl1 := stC_length st1 st1ok.2.1
    have hi1 : (Tryd.prog.info? 86).map (·.size) = some (stC st1).length := by rw [hl1]; kernel_rfl
    have hol : Tryd.zeroCells86.toList.length = (stC st1).length := by rw [hl1]; kernel_rfl
    have ho1 : ones (stC st1) := stC_ones st1
    replace hi1 := hide hi1
    replace hol := hide hol
    replace ho1 := hide ho1
    replace hl1 := hide hl1
    replace hadd := hide hadd
    replace st1ok := hide st1ok
    clear hB
    go_region_with (first
      | (go_at_call 52; refine (begin_any _).mono ?_; rintro e w1 ⟨rfl, hb1⟩; have hK1 := At.below (by repeat (first | exact hK0 | (with_reducible apply At.drew) | (with_reducible apply At.alloc))) hb1; have hs1 := hb1.size; (try simp at hs1); (try (have l1 : w.heap.size + 1 < w1.heap.size := by omega)); (try (have l2 : w.heap.size + 2 < w1.heap.size := by omega)); (try (first | have y1 := kept3m hb1 | have y1 := kept2 hb1)); (try (have y2 := kept3 hb1)); have B1 : Below w.heap.size w w1 := ext_trans (by repeat (first | exact db | (with_reducible apply ext_drew) | (with_reducible apply ext_alloc))) hb1; have D1 : Blk w1 w.heap.size 44 (List.replicate 16 (.int .u8 0)) := Blk.ext (by repeat (first | exact d0 | (with_reducible apply Blk.drew) | (with_reducible apply Blk.alloc))) hb1; (try (have x1 := cell_of y1)); (try (have x2 := cell_of y2)))
      | (go_at_call 53; refine (hadd.out _ (by repeat (first | exact hK1 | (with_reducible apply At.drew) | (with_reducible apply At.alloc)))).mono ?_; rintro e w2 ⟨rfl, hb2⟩; have hs2 := hb2.size; (try simp at hs2); have B2 : Below w.heap.size w w2 := ext_trans (by repeat (first | exact B1 | (with_reducible apply ext_alloc))) hb2; have D2 : Blk w2 w.heap.size 44 (List.replicate 16 (.int .u8 0)) := Blk.ext (by repeat (first | exact D1 | (with_reducible apply Blk.alloc))) hb2; (try (have z1 := newB1 hb2)); (try (first | have z0 := newB0 hb2 | have z0 := newA hb2)); (try (first | have z2 := keptC hb2 l1 y1 | have z2 := keptB hb2 l1 y1 | have z2 := keptA hb2 l1 y1)); (try (first | have z3 := keptC hb2 l2 y2 | have z3 := keptB hb2 l2 y2 | have z3 := keptA hb2 l2 y2)); (try (have z4 : w2.heap[w.heap.size + 1 + 1]? = _ := z3)))
      | (refine vl_store _ 86 (stC st1) Tryd.zeroCells86.toList (by rfl) (by rfl) (by first | exact z0 | exact z1 | exact z2 | exact z3 | exact z4 | exact heap_alloc_new _ _) hi1.out hol.out ho1.out ?_))
    all_goals go_wp2_with fail
    all_goals go_meet
    all_goals refine ⟨_, rfl, ?_, ?_, ?_, ?_⟩
    all_goals (have L1 := D1.lt; have L2 := D2.lt)
    all_goals first
      | exact D2.setRow_ne (by omega) _
      | exact D2.alloc _
      | exact (D2.alloc _).setRow_ne (by omega) _
      | exact below_setRow (ext_alloc B2 _) (by omega) _
      | (rw [← hst1.out]; exact (Blk.new _ _ _).setRow _)
      | exact below_setRow B2 (by omega) _
      | exact ext_alloc B2 _
      | (rw [← hst1.out]; first | exact setRow_heap _ _ _ _ _ _ z0 | exact setRow_heap _ _ _ _ _ _ z1 | exact setRow_heap _ _ _ _ _ _ z2 | exact setRow_heap _ _ _ _ _ _ z3 | exact setRow_heap _ _ _ _ _ _ z4 | exact Blk.new _ _ _)
      | omega
  case rest =>
    obtain ⟨g, rfl, hd, hst, hg, hb⟩ := hcut
    have hKc := hide (hK.out.below hb)
    have hpc := hide (hp.out.below hb)
    clear d0 db hK0 hcv htI htl htW
    go_wp2_with fail
    have hst0 : Blk wc g 86 (stC (Sha.feed Sha.st0 (Sha.inp tag ((ps.take 0).map Bs)))) := by rw [List.take_zero, List.map_nil, Sha.inp_eq, List.flatMap_nil, ← htg.out]; exact hst
    go_loopw [17] (fun sv wr => ∃ j : Nat, sv = .int .i64 j ∧ j ≤ ps.length ∧ Blk wr w.heap.size 44 (List.replicate 16 (.int .u8 0)) ∧ Blk wr g 86 (stC (Sha.feed Sha.st0 (Sha.inp tag ((ps.take j).map Bs)))) ∧ Below w.heap.size w wr) (fun sv _ => ps.length - (intOf sv).toNat)
    case atStart => exact ⟨0, rfl, Nat.zero_le _, hd, hst0, hb⟩
    case round =>
      clear hd hst hst0 hb hpc hKc
      obtain ⟨j, rfl, hj, hd, hst, hb⟩ := hrel
      have hKc := hK.out.below hb
      have hpc := hp.out.below hb
      by_cases hlt : j < ps.length
      · obtain ⟨b, off, rfl, hbl, hcell⟩ := hpc.cell (i := j) (v := .string ps[j]) (by simp [hlt])
        have hpsj := hps.out ps[j] (List.getElem_mem _)
        obtain ⟨st1, hst1⟩ : ∃ st1, st1 = Sha.feed Sha.st0 (Sha.inp tag ((ps.take j).map Bs)) := ⟨_, rfl⟩
        obtain ⟨wb, hwb⟩ : ∃ wb, wb = Wire.bytes (Bs ps[j]) := ⟨_, rfl⟩
        have hwlt : ∀ x ∈ wb, x < 256 := by rw [hwb]; exact Wire.bytes_lt _ (Bs_lt _)
        have hw0 : 0 < wb.length := by rw [hwb]; exact bytes_pos _
        have hnext : Sha.feed st1 wb = Sha.feed Sha.st0 (Sha.inp tag ((ps.take (j + 1)).map Bs)) := by
          rw [hst1, hwb, ← Sha.feed_append, ← Sha.inp_snoc, List.take_succ_eq_append_getElem hlt, List.map_append]; rfl
        have hln : st1.n + wb.length < 4611686018427387904 := by
          have e1 : st1.n = (Sha.inp tag ((ps.take j).map Bs)).length := by rw [hst1, Sha.feed_n]; simp [Sha.st0]
          have e2 : (Sha.inp tag ((ps.take (j + 1)).map Bs)).length = (Sha.inp tag ((ps.take j).map Bs)).length + wb.length := by
            rw [List.take_succ_eq_append_getElem hlt, List.map_append, hwb, ← List.length_append, ← Sha.inp_snoc]; rfl
          have e3 := inp_take_le tag (ps.map Bs) (j + 1)
          rw [← List.map_take] at e3
          have e4 := hlen.out
          omega
        have hst1ok : st1.ok := by rw [hst1]; exact Sha.feed_ok Sha.st0_ok (Sha.inp_lt _ _ (fun p hp x hx => by
          obtain ⟨q, _, rfl⟩ := List.mem_map.1 hp; exact Bs_lt _ x hx))
        obtain ⟨st2, hst2⟩ : ∃ st2, st2 = Sha.feed Sha.st0 (Sha.inp tag ((ps.take (j + 1)).map Bs)) := ⟨_, rfl⟩
        have hst2ok : st2.ok := by rw [hst2, ← hnext]; exact Sha.feed_ok hst1ok hwlt
        have hadd := fun W h => add_any st1 (Str wb) W hst1ok (by rw [Str_size]; exact hln) h
        rw [Bs_Str _ hwlt, hnext, ← hst2] at hadd
        have hbyt := fun W => bytes_any ps[j] W hpsj
        rw [← hwb] at hbyt
        rw [← hst1] at hst
        have hi1 : (Tryd.prog.info? 86).map (·.size) = some (stC st1).length := by rw [stC_length st1 hst1ok.2.1]; kernel_rfl
        have hi2 : (Tryd.prog.info? 86).map (·.size) = some (stC st2).length := by rw [stC_length st2 hst2ok.2.1]; kernel_rfl
        have hol : (stC st1).length = (stC st2).length := by rw [stC_length st1 hst1ok.2.1, stC_length st2 hst2ok.2.1]
        have ho2 : ones (stC st2) := stC_ones st2
        replace hadd := hide hadd
        replace hbyt := hide hbyt
        replace hst1 := hide hst1
        replace hst2 := hide hst2
        replace hnext := hide hnext
        replace hwb := hide hwb
        replace hwlt := hide hwlt
        replace hst1ok := hide hst1ok
        have hl2 := stC_length st2 hst2ok.2.1
        replace hst2ok := hide hst2ok
        replace hln := hide hln
        replace hi1 := hide hi1
        replace hi2 := hide hi2
        replace hol := hide hol
        replace ho2 := hide ho2
        go_wp2_with fail
        go_region_with (first
          | (go_at_call 54; refine (hbyt.out _).mono ?_; rintro e w1 ⟨v, rfl, hown, hb1⟩; have hcv1 := conv_own (P := Tryd.prog) (w := w1) Tryd.underlying89 Tryd.underlying5 Tryd.underlying9 hown hw0; clear hown; have D1 := hd.drew.ext hb1; have S1 := hst.drew.ext hb1; have hK1 := At.below hKc.drew hb1; have B1 := ext_trans (ext_drew hb) hb1)
          | (go_at_call 53; refine (hadd.out _ hK1).mono ?_; rintro e w2 ⟨rfl, hb2⟩; have D2 := D1.ext hb2; have S2 := S1.ext hb2; have B2 := ext_trans B1 hb2)
          | (refine vl_load g 86 (stC st1) _ (by rfl) (by first | exact hst.drew | exact S1) Tryd.underlying86 (by rfl) hi1.out ?_)
          | (refine vl_store g 86 (stC st2) (stC st1) (by rfl) (by rfl) S2 hi2.out hol.out ho2.out ?_))
        all_goals go_wp2_with fail
        all_goals go_roundw
        all_goals first
          | (case measure => simp [intOf]; omega)
          | (case rel => exact ⟨j + 1, by go_num, by omega, D2.setRow_ne (by omega) _, by rw [← hst2.out]; exact S2.setRow _, below_setRow B2 (by omega) _⟩)
      · obtain rfl : j = ps.length := by omega
        rw [List.take_length] at hst
        obtain ⟨st1, hst1⟩ : ∃ st1, st1 = Sha.feed Sha.st0 (Sha.inp tag (ps.map Bs)) := ⟨_, rfl⟩
        rw [← hst1] at hst
        have hst1ok : st1.ok := by rw [hst1]; exact Sha.feed_ok Sha.st0_ok (Sha.inp_lt _ _ (fun p hp x hx => by
          obtain ⟨q, _, rfl⟩ := List.mem_map.1 hp; exact Bs_lt _ x hx))
        have hln : st1.n < 2305843009213693951 := by
          have e1 : st1.n = (Sha.inp tag (ps.map Bs)).length := by rw [hst1, Sha.feed_n]; simp [Sha.st0]
          have := hlen.out; omega
        have hi1 : (Tryd.prog.info? 86).map (·.size) = some (stC st1).length := by rw [stC_length st1 hst1ok.2.1]; kernel_rfl
        obtain ⟨F, hF⟩ : ∃ F, F = Sha.fin st1 := ⟨_, rfl⟩
        have hFl : F.length = 32 := by rw [hF]; exact Sha.fin_length _
        obtain ⟨G, hG⟩ : ∃ G, G = F.take 16 := ⟨_, rfl⟩
        have hFd : Sha.dig tag (ps.map Bs) = G := by rw [hG, Sha.dig_eq, hF, hst1]
        have hGl : G.length = 16 := by rw [hG, List.length_take, hFl]; rfl
        have hsum := fun W h => sum_any st1 W hst1ok hln h
        rw [← hF] at hsum
        have hi2 : (Tryd.prog.info? 91).map (·.size) = some (F.map vu8).length := by rw [List.length_map, hFl]; kernel_rfl
        have hi3 : (Tryd.prog.info? 44).map (·.size) = some (G.map vu8).length := by rw [List.length_map, hGl]; kernel_rfl
        have hol : (List.replicate 32 (Value.int .u8 0)).length = (F.map vu8).length := by rw [List.length_map, hFl]; rfl
        have hol2 : (List.replicate 16 (Value.int .u8 0)).length = (G.map vu8).length := by rw [List.length_map, hGl]; rfl
        have ho2 : ones (F.map vu8) := fun v hv => by obtain ⟨x, _, rfl⟩ := List.mem_map.1 hv; rfl
        have ho3 : ones (G.map vu8) := fun v hv => by obtain ⟨x, _, rfl⟩ := List.mem_map.1 hv; rfl
        have hK1 := hide hKc
        clear hpc hKc
        replace hsum := hide hsum
        replace hF := hide hF
        replace hG := hide hG
        replace hGl := hide hGl
        replace hFl := hide hFl
        replace hFd := hide hFd
        replace hst1 := hide hst1
        replace hst1ok := hide hst1ok
        replace hi1 := hide hi1
        replace hi2 := hide hi2
        replace hi3 := hide hi3
        replace hol := hide hol
        replace hol2 := hide hol2
        replace ho2 := hide ho2
        replace ho3 := hide ho3
        have hat := fun (w : World) a c => run_arrayAt (P := Tryd.prog) w Tryd.underlying44 a 16 c (Nat.le_refl _)
        go_wp2_with (first
          | (refine vl_load g 86 (stC st1) _ (by rfl) hst Tryd.underlying86 (by rfl) hi1.out ?_)
          | (go_at_call 55; refine (hsum.out _ hK1.out).mono ?_; rintro e w2 ⟨rfl, hb2⟩; have D2 := hd.ext hb2; have B2 := ext_trans hb hb2; have E2 := D2.lt)
          | (refine vl_store w2.heap.size 91 (F.map vu8) (List.replicate 32 (.int .u8 0)) (by rfl) (by rfl) (Blk.new w2 _ _) hi2.out hol.out ho2.out ?_; rw [setRow_alloc]; have H2 := Blk.new w2 (F.map vu8) 91; have D3 := D2.alloc (.cells (F.map vu8).toArray 91); have B3 := ext_alloc B2 (.cells (F.map vu8).toArray 91); generalize w2.alloc (.cells (F.map vu8).toArray 91) = w3 at *)
          | (refine vl_load_at w2.heap.size 0 (G.map vu8) _ (by rfl) (by rw [hG.out, List.map_take]; exact H2.take 16) Tryd.underlying44 (by rfl) hi3.out ?_)
          | (refine vl_store w.heap.size 44 (G.map vu8) (List.replicate 16 (.int .u8 0)) (by rfl) (by rfl) D3 hi3.out hol2.out ho3.out ?_))
        exact ret_blk rfl w.heap.size _ _ _ rfl (D3.setRow _) Tryd.underlying44 rfl hi3.out rfl ⟨by rw [hFd.out], below_setRow B3 (Nat.le_refl _) _⟩
end Go.Proofs.YtbccfgeepdmegaaDoor
