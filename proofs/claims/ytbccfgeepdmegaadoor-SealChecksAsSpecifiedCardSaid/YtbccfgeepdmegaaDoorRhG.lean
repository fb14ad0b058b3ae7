/- Walks: the reference's hash: Short, Of. -/
import Derived.Test.YtbccfgeepdmegaaDoorRhF
import Derived.Test.YtbccfgeepdmegaaDoorVeil
set_option linter.unusedVariables false
set_option linter.unusedSimpArgs false
set_option linter.unnecessarySimpa false
namespace Go.Proofs.YtbccfgeepdmegaaDoor
open Go Go.RowKit Mem
theorem veil_rl32 {d : Option Tmp} {x : Operand} {t : TypeId} {p : String} {af : Array Edge} {a : Act} {w : World} {K : Act → World → Prop} {Q : Exit → Act → World → Prop} : Oper.wp Tryd.prog ⟨d, .load 91 x, t, p, af, none⟩ a w K Q = Vlt Tryd.prog ⟨d, .load 91 x, t, p, af, none⟩ a w K Q := vl_eq
theorem veil_rs32 {d : Option Tmp} {x y : Operand} {t : TypeId} {p : String} {af : Array Edge} {a : Act} {w : World} {K : Act → World → Prop} {Q : Exit → Act → World → Prop} : Oper.wp Tryd.prog ⟨d, .store 91 x y, t, p, af, none⟩ a w K Q = Vlt Tryd.prog ⟨d, .store 91 x y, t, p, af, none⟩ a w K Q := vl_eq
theorem veil_rld {d : Option Tmp} {x : Operand} {t : TypeId} {p : String} {af : Array Edge} {a : Act} {w : World} {K : Act → World → Prop} {Q : Exit → Act → World → Prop} : Oper.wp Tryd.prog ⟨d, .load 44 x, t, p, af, none⟩ a w K Q = Vlt Tryd.prog ⟨d, .load 44 x, t, p, af, none⟩ a w K Q := vl_eq
theorem veil_rsd {d : Option Tmp} {x y : Operand} {t : TypeId} {p : String} {af : Array Edge} {a : Act} {w : World} {K : Act → World → Prop} {Q : Exit → Act → World → Prop} : Oper.wp Tryd.prog ⟨d, .store 44 x y, t, p, af, none⟩ a w K Q = Vlt Tryd.prog ⟨d, .store 44 x y, t, p, af, none⟩ a w K Q := vl_eq
attribute [local go_sem ↓] Go.wp_at_zero Go.wp_at_succ veil_rl32 veil_rs32 veil_rld veil_rsd
theorem take16 (F : List Nat) (h : 16 ≤ F.length) : (List.range 16).map (fun i => (Value.int .u8 (F.getD i 0 : Nat))) = (F.take 16).map vu8 := by
  apply List.ext_getElem?
  intro i
  by_cases hi : i < 16
  · rw [List.getElem?_map, List.getElem?_range hi, List.getElem?_map, List.getElem?_take, if_pos hi, Option.map_some, List.getD_eq_getElem?_getD, List.getElem?_eq_getElem (by omega)]; rfl
  · rw [List.getElem?_eq_none (by simp; omega), List.getElem?_eq_none (by simp; omega)]
theorem getB (F : List Nat) (i : Nat) (h : i < F.length) : (F.map vu8)[i]? = some (.int .u8 (F.getD i 0 : Nat)) := by
  rw [List.getElem?_map, List.getD_eq_getElem?_getD, List.getElem?_eq_getElem h]; rfl
set_option maxRecDepth 100000 in
set_option maxHeartbeats 2000000 in
theorem rshort_any (A : Option Addr) (cap : Nat) (m : List Nat) (w : World) (hm : Rd w A (m.map vu8)) (hlt : ∀ x ∈ m, x < 256) (hn : m.length ≤ 1000000) (hK : At w 1 0 (Sha.K.map vu32)) :
    Calls Tryd.prog 57 #[.slice A m.length cap] w fun e w' => e = .returned (.agg (((Sha.fin (Sha.feed Sha.st0 m)).take 16).map vu8).toArray) ∧ Below w.heap.size w w' := by
  have O := Blk.new w (List.replicate 16 (.int .u8 0)) 44
  have b0 := ext_alloc (Below.refl w.heap.size w) (.cells (List.replicate 16 (.int .u8 0)).toArray 44)
  have hs := hide (rsum_any A cap m _ (Rd.below hm b0) hlt hn (hK.below b0))
  have hF := Sha.fin_length (Sha.feed Sha.st0 m)
  have hFlt := Sha.fin_lt (Sha.feed Sha.st0 m)
  obtain ⟨F, hFe⟩ : ∃ F, F = Sha.fin (Sha.feed Sha.st0 m) := ⟨_, rfl⟩
  rw [← hFe] at hs hF hFlt ⊢
  replace hFe := hide hFe
  have t16 := hide (take16 F (by omega))
  have i1 := hide (show (Tryd.prog.info? 91).map (·.size) = some (F.map vu8).length by rw [List.length_map, hF]; kernel_rfl)
  have i2 := hide (show (List.replicate 32 (Value.int .u8 0)).length = (F.map vu8).length by rw [List.length_map, hF]; rfl)
  have i3 := hide (show ones (F.map vu8) from fun v hv => by obtain ⟨x, _, rfl⟩ := List.mem_map.1 hv; rfl)
  have j1 := hide (show (Tryd.prog.info? 44).map (·.size) = some ((F.take 16).map vu8).length by rw [List.length_map, List.length_take, hF]; kernel_rfl)
  have j2 := hide (show (List.replicate 16 (Value.int .u8 0)).length = ((F.take 16).map vu8).length by rw [List.length_map, List.length_take, hF]; rfl)
  have j3 := hide (show ones ((F.take 16).map vu8) from fun v hv => by obtain ⟨x, _, rfl⟩ := List.mem_map.1 hv; rfl)
  have k1 := hide (show (Tryd.prog.info? 44).map (·.size) = some (List.replicate 16 (Value.int .u8 0)).length by kernel_rfl)
  have k3 := hide (show ones (List.replicate 16 (Value.int .u8 0)) from fun v hv => by rw [List.eq_of_mem_replicate hv]; rfl)
  go_enter Tryd.func57, Tryd.ntmps57
  go_wp2_with (first
    | (go_at_call 63; refine hs.out.mono ?_; rintro e w2 ⟨rfl, hb2⟩; have O2 := O.ext hb2; have B2 := ext_trans b0 hb2)
    | (refine vl_store w2.heap.size 91 (F.map vu8) (List.replicate 32 (.int .u8 0)) (by rfl) (by rfl) (Blk.new w2 _ _) i1.out i2.out i3.out ?_; rw [setRow_alloc]; have H3 := Blk.new w2 (F.map vu8) 91; have O3 := O2.alloc (.cells (F.map vu8).toArray 91); have B3 := ext_alloc B2 (.cells (F.map vu8).toArray 91); generalize w2.alloc (.cells (F.map vu8).toArray 91) = w3 at *; (try simp only [Act.put, List.setIfInBounds_toArray, List.set_cons_zero, List.set_cons_succ]))
    | (refine vl_store w3.heap.size 44 (List.replicate 16 (.int .u8 0)) (List.replicate 16 (.int .u8 0)) (by rfl) (by rfl) (Blk.new w3 _ _) k1.out rfl k3.out ?_; rw [setRow_alloc]; have D4 := Blk.new w3 (List.replicate 16 (.int .u8 0)) 44; have H4 := H3.alloc (.cells (List.replicate 16 (.int .u8 0)).toArray 44); have O4 := O3.alloc (.cells (List.replicate 16 (.int .u8 0)).toArray 44); have B4 := ext_alloc B3 (.cells (List.replicate 16 (.int .u8 0)).toArray 44); generalize w3.alloc (.cells (List.replicate 16 (.int .u8 0)).toArray 44) = w4 at *; (try simp only [Act.put, List.setIfInBounds_toArray, List.set_cons_zero, List.set_cons_succ])))
  have l3 := H3.lt
  have l2 := O2.lt
  clear H3 O3 B3 O2 B2 O b0 hb2 hs
  generalize w3.heap.size = q at *
  go_loopw [5] (fun a wr => ∃ i : Nat, i ≤ 16 ∧ a = .int .i64 i ∧ Blk wr q 44 (fill (fun i => .int .u8 (F.getD i 0 : Nat)) (.int .u8 0) 16 i) ∧ Blk wr w2.heap.size 91 (F.map vu8) ∧ Blk wr w.heap.size 44 (List.replicate 16 (.int .u8 0)) ∧ Below w.heap.size w wr) (fun a _ => 16 - (intOf a).toNat)
  case atStart => exact ⟨0, by omega, rfl, by rw [fill_zero]; exact D4, H4, O4, B4⟩
  case round =>
    clear D4 H4 O4 B4
    obtain ⟨i, hi, rfl, D4, H4, O4, B4⟩ := hrel
    by_cases hi16 : i < 16
    · have hc := H4.cell (getB F i (by omega))
      have hfr := D4.frozen i
      have hct := D4.cell (fill_get _ _ _ i i hi16)
      rw [if_neg (Nat.lt_irrefl i)] at hct
      have hset := hide (fill_set (fun i => .int .u8 (F.getD i 0 : Nat)) (.int .u8 0) 16 i hi16)
      have i1 : (i : Int) < 32 := by omega
      go_wp2_with fail
      go_roundw
      case rel =>
        refine ⟨i + 1, by omega, by go_num, ?_, H4.set_ne (by omega) _ _, O4.set_ne (by omega) _ _, B4.setCell (by simp; omega) _⟩
        rw [← hset.out]
        exact D4.set i _
      case measure => simp [intOf]; omega
    · obtain rfl : i = 16 := by omega
      rw [fill_full, t16.out] at D4
      go_wp2_with (first
        | (refine vl_load q 44 ((F.take 16).map vu8) _ (by rfl) D4 Tryd.underlying44 (by rfl) j1.out ?_; (try simp only [Act.put, List.setIfInBounds_toArray, List.set_cons_zero, List.set_cons_succ]))
        | (refine vl_store w.heap.size 44 ((F.take 16).map vu8) (List.replicate 16 (.int .u8 0)) (by rfl) (by rfl) O4 j1.out j2.out j3.out ?_; (try simp only [Act.put, List.setIfInBounds_toArray, List.set_cons_zero, List.set_cons_succ])))
      exact ret_blk rfl w.heap.size _ _ _ rfl (O4.setRow _) Tryd.underlying44 rfl j1.out rfl ⟨rfl, below_setRow B4 (Nat.le_refl _) _⟩
set_option maxRecDepth 100000 in
set_option maxHeartbeats 2000000 in
theorem rof_any (tag : Int) (A : Option Addr) (cap : Nat) (ps : List ByteArray) (w : World) (hp : Rd w A (ps.map .string)) (hlen : (Sha.inp tag (ps.map Bs)).length ≤ 1000000) (hK : At w 1 0 (Sha.K.map vu32)) :
    Calls Tryd.prog 44 #[.int .i64 tag, .slice A ps.length cap] w fun e w' => e = .returned (.agg ((Sha.dig tag (ps.map Bs)).map vu8).toArray) ∧ Below w.heap.size w w' := by
  have O := Blk.new w (List.replicate 16 (.int .u8 0)) 44
  have b0 := ext_alloc (Below.refl w.heap.size w) (.cells (List.replicate 16 (.int .u8 0)).toArray 44)
  have hi := hide (rinput_any tag A cap ps _ (Rd.below hp b0) hlen)
  have hlt := Sha.inp_lt tag (ps.map Bs) (fun p hp => by obtain ⟨q, _, rfl⟩ := List.mem_map.1 hp; exact Bs_lt q)
  have hpos : 0 < (Sha.inp tag (ps.map Bs)).length := by rw [Sha.inp_eq]; simp
  have hd := Sha.dig_eq tag (ps.map Bs)
  have hdl := Sha.dig_length tag (ps.map Bs)
  obtain ⟨m, hm⟩ : ∃ m, m = Sha.inp tag (ps.map Bs) := ⟨_, rfl⟩
  rw [← hm] at hi hlt hpos hd hlen
  obtain ⟨D, hD⟩ : ∃ D, D = Sha.dig tag (ps.map Bs) := ⟨_, rfl⟩
  rw [← hD] at hd hdl ⊢
  have hKW := hide (hK.below b0)
  have j1 := hide (show (Tryd.prog.info? 44).map (·.size) = some (D.map vu8).length by rw [List.length_map, hdl]; kernel_rfl)
  have j2 := hide (show (List.replicate 16 (Value.int .u8 0)).length = (D.map vu8).length by rw [List.length_map, hdl]; rfl)
  have j3 := hide (show ones (D.map vu8) from fun v hv => by obtain ⟨x, _, rfl⟩ := List.mem_map.1 hv; rfl)
  replace hm := hide hm
  replace hD := hide hD
  replace hd := hide hd
  replace hlt := hide hlt
  go_enter Tryd.func44, Tryd.ntmps44
  go_wp2_with (first
    | (go_at_call 58; refine hi.out.mono ?_; rintro e w2 ⟨v, rfl, own2, hb2⟩; have O2 := O.ext hb2; have B2 := ext_trans b0 hb2; obtain ⟨g, cap2, rfl, _, _, _, _, hat⟩ := own_at own2 hpos; have K2 := hide (hKW.out.below hb2))
    | (go_at_call 57; refine (rshort_any _ cap2 m w2 (fun _ => ⟨g, 0, rfl, hat⟩) hlt.out hlen K2.out).mono ?_; rintro e w3 ⟨rfl, hb3⟩; rw [← hd.out]; have O3 := O2.ext hb3; have B3 := ext_trans B2 hb3)
    | (refine vl_store w.heap.size 44 (D.map vu8) (List.replicate 16 (.int .u8 0)) (by rfl) (by rfl) O3 j1.out j2.out j3.out ?_; (try simp only [Act.put, List.setIfInBounds_toArray, List.set_cons_zero, List.set_cons_succ])))
  exact ret_blk rfl w.heap.size _ _ _ rfl (O3.setRow _) Tryd.underlying44 rfl j1.out rfl ⟨rfl, below_setRow B3 (Nat.le_refl _) _⟩
end Go.Proofs.YtbccfgeepdmegaaDoor
