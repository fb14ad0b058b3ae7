/- Walks: the specification's Make, Blind, Check. -/
import Derived.Test.YtbccfgeepdmegaaDoorRhG
import Derived.Test.YtbccfgeepdmegaaDoorSealN
import Derived.Test.YtbccfgeepdmegaaDoorRefB
set_option linter.unusedVariables false
set_option linter.unusedSimpArgs false
set_option linter.unnecessarySimpa false
namespace Go.Proofs.YtbccfgeepdmegaaDoor
open Go Go.RowKit Mem
theorem veil_xlseal {d : Option Tmp} {x : Operand} {t : TypeId} {p : String} {af : Array Edge} {a : Act} {w : World} {K : Act → World → Prop} {Q : Exit → Act → World → Prop} : Oper.wp Tryd.prog ⟨d, .load 43 x, t, p, af, none⟩ a w K Q = Vlt Tryd.prog ⟨d, .load 43 x, t, p, af, none⟩ a w K Q := vl_eq
theorem veil_xsseal {d : Option Tmp} {x y : Operand} {t : TypeId} {p : String} {af : Array Edge} {a : Act} {w : World} {K : Act → World → Prop} {Q : Exit → Act → World → Prop} : Oper.wp Tryd.prog ⟨d, .store 43 x y, t, p, af, none⟩ a w K Q = Vlt Tryd.prog ⟨d, .store 43 x y, t, p, af, none⟩ a w K Q := vl_eq
theorem veil_xldig {d : Option Tmp} {x : Operand} {t : TypeId} {p : String} {af : Array Edge} {a : Act} {w : World} {K : Act → World → Prop} {Q : Exit → Act → World → Prop} : Oper.wp Tryd.prog ⟨d, .load 44 x, t, p, af, none⟩ a w K Q = Vlt Tryd.prog ⟨d, .load 44 x, t, p, af, none⟩ a w K Q := vl_eq
theorem veil_xsdig {d : Option Tmp} {x y : Operand} {t : TypeId} {p : String} {af : Array Edge} {a : Act} {w : World} {K : Act → World → Prop} {Q : Exit → Act → World → Prop} : Oper.wp Tryd.prog ⟨d, .store 44 x y, t, p, af, none⟩ a w K Q = Vlt Tryd.prog ⟨d, .store 44 x y, t, p, af, none⟩ a w K Q := vl_eq
attribute [local go_sem ↓] Go.wp_at_zero Go.wp_at_succ veil_lk veil_sk veil_xlseal veil_xsseal veil_xldig veil_xsdig
theorem info_strR : (Tryd.prog.info? 9).map (fun i => (i.zero, i.size, i.bytes)) = some (some (.string ⟨#[]⟩), 1, 16) := by kernel_rfl
theorem src_strs {w : World} {A : Option Addr} {ps : List ByteArray} (h : Rd w A (ps.map .string)) : Src w 1 A ps.length (ps.map .string) := Src.of_rd h (by simp) (by decide)
theorem strs_one (ps : List ByteArray) : ∀ u ∈ ps.map Value.string, u.oneCell' = true := fun u hu => by obtain ⟨x, _, rfl⟩ := List.mem_map.1 hu; rfl
theorem keep_blk {w w' : World} {base e size n b t : Nat} {cs : List Value} {v : Value} {xs : List Value} (hk : Blk w b t cs) (h : w.ownsRow base e size v n xs) (hg : w.grownBy w' v.ownBlock) (hb : b < base) : Blk w' b t cs :=
  (hg.block b hk.lt (fun e => by have := own_ge h b e.symm; omega)).trans hk
theorem own_one (w : World) (u : Value) (t : Nat) : (w.alloc (.cells #[u] t)).ownsRow w.heap.size t 1 (.slice (some ⟨w.heap.size, 0, none⟩) 1 1) 1 [u] :=
  ⟨rfl, .inr ⟨w.heap.size, 1, #[u], rfl, Nat.le_refl _, Blk.new w [u] t, Nat.le_refl _, by decide, rfl, rfl⟩⟩
set_option maxRecDepth 100000 in
set_option maxHeartbeats 4000000 in
theorem rmake_any (k : KeyD) (tag : Int) (A : Option Addr) (cap : Nat) (ps : List ByteArray) (w : World) (hp : Rd w A (ps.map .string)) (hn : ps.length ≤ 1000) (hlen : (Sha.inp tag (((k.secret :: ps) ++ [k.secret]).map Bs)).length ≤ 1000000) (hK : At w 1 0 (Sha.K.map vu32)) :
    Calls Tryd.prog 23 #[kV k, .int .i64 tag, .slice A ps.length cap] w fun e w' => e = .returned (.agg ((mk k.secret tag ps).map vu8).toArray) ∧ Below w.heap.size w w' := by
  obtain ⟨i0, hi, hi0, hi1, hi2⟩ := info_parts info_strR
  obtain ⟨W, hW, X, M, S0, hb, hWs⟩ : ∃ W, W = (w.alloc (.cells #[.int .i64 k.party, .int .i64 k.serial, .string k.secret, .int .i64 k.fr, .int .i64 k.to] 24)).alloc (.cells #[.int .u8 0, .int .u8 0, .int .u8 0, .int .u8 0, .int .u8 0, .int .u8 0, .int .u8 0, .int .u8 0, .int .u8 0, .int .u8 0, .int .u8 0, .int .u8 0, .int .u8 0, .int .u8 0, .int .u8 0, .int .u8 0] 43) ∧ Blk W w.heap.size 24 (kC k) ∧ Blk W (w.heap.size + 1) 43 (List.replicate 16 (.int .u8 0)) ∧ W.heap.size = w.heap.size + 1 + 1 ∧ Below w.heap.size w W ∧ w.heap.size + 1 < W.heap.size :=
    ⟨_, rfl, (Blk.new w (kC k) 24).alloc _, blk_at _ _ (by simp), by simp, ext_alloc (ext_alloc (Below.refl _ _) _) _, by simp⟩
  have hmk := mk_16 k.secret tag ps
  have hmke := mk_eq k.secret tag ps
  have hpW := Rd.below hp hb
  obtain ⟨F, hF⟩ : ∃ F, F = mk k.secret tag ps := ⟨_, rfl⟩
  rw [← hF] at hmk hmke ⊢
  have i1 := hide (d16_seal hmk)
  have i2 := hide (show (List.replicate 16 (Value.int .u8 0)).length = (F.map vu8).length by rw [List.length_map, hmk.1]; rfl)
  have i3 := hide (vu8_ones F)
  obtain ⟨al, hal⟩ : ∃ al, al = (k.secret :: ps) ++ [k.secret] := ⟨_, rfl⟩
  rw [← hal] at hmke hlen
  replace hal := hide hal
  replace hF := hide hF
  replace hmke := hide hmke
  replace hi := hide hi
  replace hi0 := hide hi0
  replace hi1 := hide hi1
  replace hi2 := hide hi2
  replace hlen := hide hlen
  have hKW := hide (hK.below hb)
  have ho := hide (strs_one ps)
  have e5 := X.cell (i := 2) rfl
  replace X := hide X
  unfold kV
  go_enter Tryd.func23, Tryd.ntmps23
  go_upto_region 1 with fail
  rw [← hW]
  clear hW
  have own0 := own_one W (.string k.secret) 9
  rw [S0] at own0
  have X0 := X.out.alloc (.cells #[.string k.secret] 9)
  have M0 := M.alloc (.cells #[.string k.secret] 9)
  have B0 := ext_alloc hb (.cells #[.string k.secret] 9)
  have s0 := hide (src_strs (Rd.alloc hpW (.cells #[.string k.secret] 9)))
  have hsW : (W.alloc (.cells #[.string k.secret] 9)).heap.size = W.heap.size + 1 := by simp
  replace own0 := hide own0
  replace hsW := hide hsW
  go_wp2_with (first
    | (at_builtin; refine wpList_append_src rfl (.tmp 10) (.tmp 11) 41 rfl (w.heap.size + 1 + 1) 9 i0 (.string ⟨#[]⟩) 1 16 Tryd.underlying41 hi.out hi0.out hi1.out hi2.out rfl (by decide) _ 1 [.string k.secret] (by rfl) own0.out A ps.length cap (ps.map .string) (by rfl) s0.out ho.out ?c1 ?c2 ?c3 ?_; (case c1 => simp only [maxLen]; omega); (case c2 => omega); (case c3 => have := hsW.out; omega); intro v1 w1 own1 g1; have B1 := below_grown1 B0 (by have := hsW.out; omega) own0.out (by omega) g1; have X1 := keep_blk X0 own0.out g1 (by omega); have M1 := keep_blk M0 own0.out g1 (by omega); have e1 := X1.cell (i := 2) rfl; have ge1 := g1.size; replace own1 := hide own1)
    | (at_builtin; refine wpList_append_own _ rfl (.tmp 13) (.tmp 16) 41 rfl (w.heap.size + 1 + 1) 9 i0 (.string ⟨#[]⟩) 1 16 Tryd.underlying41 hi.out hi0.out hi1.out hi2.out rfl (by decide) _ _ _ rfl (own1.out.alloc _) ⟨w1.heap.size, 0, none⟩ 1 1 [.string k.secret] rfl rfl ?d1 ?d2 ?d3 ?d4 ?d5 ?_; (case d1 => exact cell_new1 _ _ _); (case d2 => simp [Value.oneCell']); (case d3 => simp only [maxLen]; omega); (case d4 => omega); (case d5 => have := hsW.out; simp; omega); intro v2 w2 own2 g2 _; have M2 := own_blk M1 own1.out g2 (by omega); have B2 := own_grown' B1 (by have := hsW.out; omega) own1.out g2 (by omega))
    | (go_at_call 44; have own3 : w2.ownsRow (w.heap.size + 1 + 1) 9 1 v2 al.length (al.map .string) := (by rw [hal.out]; simpa [Nat.add_comm, Nat.add_left_comm] using own2); obtain ⟨g3, cap3, e3, rd3⟩ := own_rd own3 (by rw [hal.out]; simp); rw [e3]; refine (rof_any tag _ cap3 al w2 rd3 hlen.out (hK.below B2)).mono ?_; rintro e w3 ⟨rfl, hb3⟩; rw [← hmke.out]; have M3 := M2.ext hb3; have B3 := ext_trans B2 hb3)
    | (refine vl_store (w.heap.size + 1) 43 (F.map vu8) (List.replicate 16 (.int .u8 0)) (by rfl) (by rfl) M3 i1.out i2.out i3.out ?_; (try simp only [Act.put, List.setIfInBounds_toArray, List.set_cons_zero, List.set_cons_succ])))
  exact ret_blk rfl (w.heap.size + 1) _ _ _ rfl (M3.setRow _) Tryd.underlying43 rfl i1.out rfl ⟨rfl, below_setRow B3 (Nat.le_succ _) _⟩
set_option maxRecDepth 100000 in
set_option maxHeartbeats 4000000 in
theorem rblind_any (nonce : ByteArray) (A : Option Addr) (cap : Nat) (ps : List ByteArray) (w : World) (hp : Rd w A (ps.map .string)) (hn : ps.length ≤ 1000) (hlen : (Sha.inp 121 ((nonce :: ps).map Bs)).length ≤ 1000000) (hK : At w 1 0 (Sha.K.map vu32)) :
    Calls Tryd.prog 26 #[.string nonce, .slice A ps.length cap] w fun e w' => e = .returned (.agg ((bl nonce ps).map vu8).toArray) ∧ Below w.heap.size w w' := by
  obtain ⟨i0, hi, hi0, hi1, hi2⟩ := info_parts info_strR
  obtain ⟨W, hW, M, S0, hb, own0, hWs⟩ : ∃ W, W = (w.alloc (.cells #[.int .u8 0, .int .u8 0, .int .u8 0, .int .u8 0, .int .u8 0, .int .u8 0, .int .u8 0, .int .u8 0, .int .u8 0, .int .u8 0, .int .u8 0, .int .u8 0, .int .u8 0, .int .u8 0, .int .u8 0, .int .u8 0] 44)).alloc (.cells #[.string nonce] 9) ∧ Blk W w.heap.size 44 (List.replicate 16 (.int .u8 0)) ∧ W.heap.size = w.heap.size + 1 + 1 ∧ Below w.heap.size w W ∧ W.ownsRow (w.heap.size + 1) 9 1 (.slice (some ⟨w.heap.size + 1, 0, none⟩) 1 1) 1 [.string nonce] ∧ w.heap.size < W.heap.size :=
    ⟨_, rfl, (blk_at (List.replicate 16 (.int .u8 0)) 44 (by simp)).alloc _, by simp, ext_alloc (ext_alloc (Below.refl _ _) _) _, by
      have h := own_one (w.alloc (.cells #[.int .u8 0, .int .u8 0, .int .u8 0, .int .u8 0, .int .u8 0, .int .u8 0, .int .u8 0, .int .u8 0, .int .u8 0, .int .u8 0, .int .u8 0, .int .u8 0, .int .u8 0, .int .u8 0, .int .u8 0, .int .u8 0] 44)) (.string nonce) 9
      simpa using h, by simp; omega⟩
  have hmk := bl_16 nonce ps
  have hmke := bl_eq nonce ps
  have s0 := hide (src_strs (Rd.below hp hb))
  obtain ⟨F, hF⟩ : ∃ F, F = bl nonce ps := ⟨_, rfl⟩
  rw [← hF] at hmk hmke ⊢
  have i1 := hide (d16_dig hmk)
  have i2 := hide (show (List.replicate 16 (Value.int .u8 0)).length = (F.map vu8).length by rw [List.length_map, hmk.1]; rfl)
  have i3 := hide (vu8_ones F)
  obtain ⟨al, hal⟩ : ∃ al, al = nonce :: ps := ⟨_, rfl⟩
  rw [← hal] at hmke hlen
  replace hal := hide hal
  replace hF := hide hF
  replace hmke := hide hmke
  replace hi := hide hi
  replace hi0 := hide hi0
  replace hi1 := hide hi1
  replace hi2 := hide hi2
  replace hlen := hide hlen
  replace own0 := hide own0
  have ho := hide (strs_one ps)
  go_enter Tryd.func26, Tryd.ntmps26
  go_wp2_with (first
    | (at_builtin; rw [← hW]; refine wpList_append_src rfl (.tmp 6) (.tmp 7) 41 rfl (w.heap.size + 1) 9 i0 (.string ⟨#[]⟩) 1 16 Tryd.underlying41 hi.out hi0.out hi1.out hi2.out rfl (by decide) _ 1 [.string nonce] (by rfl) own0.out A ps.length cap (ps.map .string) (by rfl) s0.out ho.out ?c1 ?c2 ?c3 ?_; (case c1 => simp only [maxLen]; omega); (case c2 => omega); (case c3 => omega); intro v1 w1 own1 g1; have B1 := below_grown1 hb (by omega) own0.out (by omega) g1; have M1 := keep_blk M own0.out g1 (by omega))
    | (go_at_call 44; have own3 : w1.ownsRow (w.heap.size + 1) 9 1 v1 al.length (al.map .string) := (by rw [hal.out]; simpa [Nat.add_comm, Nat.add_left_comm] using own1); obtain ⟨g3, cap3, e3, rd3⟩ := own_rd own3 (by rw [hal.out]; simp); rw [e3]; refine (rof_any 121 _ cap3 al w1 rd3 hlen.out (hK.below B1)).mono ?_; rintro e w3 ⟨rfl, hb3⟩; rw [← hmke.out]; have M3 := M1.ext hb3; have B3 := ext_trans B1 hb3)
    | (refine vl_store w.heap.size 44 (F.map vu8) (List.replicate 16 (.int .u8 0)) (by rfl) (by rfl) M3 i1.out i2.out i3.out ?_; (try simp only [Act.put, List.setIfInBounds_toArray, List.set_cons_zero, List.set_cons_succ])))
  exact ret_blk rfl w.heap.size _ _ _ rfl (M3.setRow _) Tryd.underlying44 rfl i1.out rfl ⟨rfl, below_setRow B3 (Nat.le_refl _) _⟩
attribute [local go_sem ↓] veil_ld37 veil_st37
theorem keyed_k {w : World} {b : Nat} {k : KeyD} {e : Int} (h : Blk w b 37 (keyedC k e)) : At w b 0 (kC k) := h.take 5
set_option maxRecDepth 100000 in
set_option maxHeartbeats 8000000 in
theorem rcheck_any (R : Option Addr) (rcap : Nat) (l : List KeyD) (p s tag : Int) (A : Option Addr) (cap : Nat) (ps : List ByteArray) (sg : List Nat) (hsg : D16 sg) (d : Int) (w : World) (hl : Ks w R l) (hln : l.length ≤ 1000000)
    (hp : Rd w A (ps.map .string)) (hn : ps.length ≤ 1000) (hlen : ∀ k, find l p s = some k → (Sha.inp tag (((k.secret :: ps) ++ [k.secret]).map Bs)).length ≤ 1000000) (hK : At w 1 0 (Sha.K.map vu32)) :
    Calls Tryd.prog 25 #[.slice R l.length rcap, .int .i64 p, .int .i64 s, .int .i64 tag, .slice A ps.length cap, .agg (sg.map vu8).toArray, .int .i64 d] w fun e w' => e = .returned (.int .i64 (chkE l p s tag ps sg d)) ∧ Below w.heap.size w w' := by
  have hks := fun k e => hide (keyedC_size k e)
  have hkl := fun a b e f => hide (keyedC_len a b e f)
  have hko := fun k e => hide (keyedC_ones k e)
  have hk5 := fun k => hide (kC_size k)
  have hb := (Below.refl w.heap.size w).alloc (Nat.le_refl _) (.cells (sg.map vu8).toArray 43)
  have hX := Blk.new w (sg.map vu8) 43
  have hfc := fun W h => rfind_any R rcap l p s W h hln
  have hlW := Ks.below hl hb
  have hpW := Rd.below hp hb
  have hKW := hide (hK.below hb)
  have i1 := hide (d16_seal hsg)
  cases hf : find l p s with
  | none =>
    rw [chk_none hf]
    rw [findK_none hf, findE_none hf] at hfc
    replace hfc := hide hfc
    clear hf hlen
    go_enter Tryd.func25, Tryd.ntmps25
    go_wp2_with (first
      | (go_at_call 18; refine (hfc.out _ hlW).mono ?_; rintro e w2 ⟨rfl, hb2⟩; have B2 := ext_trans hb hb2)
      | (refine vl_store w2.heap.size 37 (keyedC (key0 0 0) 5) (keyedC (key0 0 0) 0) (by rfl) (by rfl) (Blk.new w2 _ _) (hks _ _).out (hkl _ _ _ _).out (hko _ _).out ?_; rw [setRow_alloc]; have X3 := Blk.new w2 (keyedC (key0 0 0) 5) 37; have e3 := X3.cell (i := 5) rfl; have B3 := ext_alloc B2 (.cells (keyedC (key0 0 0) 5).toArray 37); generalize w2.alloc (.cells (keyedC (key0 0 0) 5).toArray 37) = w3 at *; (try simp only [Act.put, List.setIfInBounds_toArray, List.set_cons_zero, List.set_cons_succ])))
    go_ret
    exact ⟨rfl, B3⟩
  | some k =>
    have hlen2 := hide (hlen k hf)
    have hmake := fun W h h2 => rmake_any k tag A cap ps W h hn hlen2.out h2
    have heq := fun W => eqIn_seal (mk_16 k.secret tag ps) hsg W
    rw [findK_some hf, findE_some hf] at hfc
    replace hfc := hide hfc
    replace hsg := hide hsg
    clear hlen
    cases hc : k.counts d with
    | false =>
      rw [chk_time hf tag ps sg hc]
      clear hf heq hmake
      go_enter Tryd.func25, Tryd.ntmps25
      go_wp2_with (first
        | (go_at_call 18; refine (hfc.out _ hlW).mono ?_; rintro e w2 ⟨rfl, hb2⟩; have B2 := ext_trans hb hb2)
        | (refine vl_store w2.heap.size 37 (keyedC k 0) (keyedC (key0 0 0) 0) (by rfl) (by rfl) (Blk.new w2 _ _) (hks _ _).out (hkl _ _ _ _).out (hko _ _).out ?_; rw [setRow_alloc]; have X3 := Blk.new w2 (keyedC k 0) 37; have e3 := X3.cell (i := 5) rfl; have B3 := ext_alloc B2 (.cells (keyedC k 0).toArray 37); generalize w2.alloc (.cells (keyedC k 0).toArray 37) = w3 at *; (try simp only [Act.put, List.setIfInBounds_toArray, List.set_cons_zero, List.set_cons_succ]))
        | (refine vl_load_at w2.heap.size 0 (kC k) _ (by rfl) (keyed_k X3) Tryd.underlying24 (by rfl) (hk5 _).out ?_; simp only [kC]; (try simp only [Act.put, List.setIfInBounds_toArray, List.set_cons_zero, List.set_cons_succ]))
        | (go_at_call 41; refine (rcounts_any k d _).mono ?_; rintro e w4 ⟨rfl, hb4⟩; have B4 := ext_trans B3 hb4))
      go_ret
      exact ⟨rfl, B4⟩
    | true =>
      rw [chk_counts hf tag ps sg hc]
      clear hf
      obtain ⟨F, hF⟩ : ∃ F, F = mk k.secret tag ps := ⟨_, rfl⟩
      rw [← hF] at hmake heq ⊢
      replace hF := hide hF
      replace hmake := hide hmake
      cases hdec : decide (F = sg)
      all_goals
        rw [hdec] at heq
        first | rw [if_neg (of_decide_eq_false hdec)] | rw [if_pos (of_decide_eq_true hdec)]
        replace hdec := hide hdec
        go_enter Tryd.func25, Tryd.ntmps25
        go_wp2_with (first
          | (go_at_call 18; refine (hfc.out _ hlW).mono ?_; rintro e w2 ⟨rfl, hb2⟩; have B2 := ext_trans hb hb2; have S2 := hX.ext hb2; have K2 := hide (hKW.out.below hb2); have P2 := Rd.below hpW hb2)
          | (refine vl_store w2.heap.size 37 (keyedC k 0) (keyedC (key0 0 0) 0) (by rfl) (by rfl) (Blk.new w2 _ _) (hks _ _).out (hkl _ _ _ _).out (hko _ _).out ?_; rw [setRow_alloc]; have X3 := Blk.new w2 (keyedC k 0) 37; have e3 := X3.cell (i := 5) rfl; have B3 := ext_alloc B2 (.cells (keyedC k 0).toArray 37); have S3 := S2.alloc (.cells (keyedC k 0).toArray 37); have K3 := hide (K2.out.alloc (.cells (keyedC k 0).toArray 37)); have P3 := Rd.alloc P2 (.cells (keyedC k 0).toArray 37); generalize w2.alloc (.cells (keyedC k 0).toArray 37) = w3 at *; (try simp only [Act.put, List.setIfInBounds_toArray, List.set_cons_zero, List.set_cons_succ]))
          | (refine vl_load_at w2.heap.size 0 (kC k) _ (by rfl) (keyed_k X3) Tryd.underlying24 (by rfl) (hk5 _).out ?_; simp only [kC]; (try simp only [Act.put, List.setIfInBounds_toArray, List.set_cons_zero, List.set_cons_succ]))
          | (go_at_call 41; refine (rcounts_any k d _).mono ?_; rintro e w4 ⟨rfl, hb4⟩; have B4 := ext_trans B3 hb4; have S4 := S3.ext hb4; have X4 := X3.ext hb4; have K4 := hide (K3.out.below hb4); have P4 := Rd.below P3 hb4))
        refine wp_region_held_drew (S := (fun w' => (w'.cell? ⟨w2.heap.size, 0, none⟩ = some (.int .i64 k.party) ∧ w'.cell? ⟨w2.heap.size, 1, none⟩ = some (.int .i64 k.serial) ∧ w'.cell? ⟨w2.heap.size, 2, none⟩ = some (.string k.secret) ∧ w'.cell? ⟨w2.heap.size, 3, none⟩ = some (.int .i64 k.fr) ∧ w'.cell? ⟨w2.heap.size, 4, none⟩ = some (.int .i64 k.to)) ∧ At w' w.heap.size 0 (sg.map vu8))) (by kernel_rfl) (⟨kcell (keyed_k X4), At.of_blk S4⟩) (fun hHeld => ?_)
        (refine wpAnyH_take (i := 0) (oi := ⟨some 30, _, _, _, _, _⟩) (v := ?_) rfl (by kernel_rfl) (by kernel_rfl) (by kernel_rfl) (fun _ _ _ h => h) (Or.inl ⟨by kernel_rfl, ?_⟩) hHeld ?_; rotate_left; (focus (intro wS hSw; (try dsimp only at hSw); go_simp; (try with_reducible rfl); done)); (try simp only [Act.put, List.setIfInBounds_toArray, List.set_cons_zero, List.set_cons_succ]); refine wpAnyH_take (i := 1) (oi := ⟨some 31, _, _, _, _, _⟩) (v := ?_) rfl (by kernel_rfl) (by kernel_rfl) (by kernel_rfl) (fun _ _ _ h => h) (Or.inl ⟨by kernel_rfl, ?_⟩) hHeld ?_; rotate_left; (focus (intro wS hSw; (try dsimp only at hSw); go_simp; (try with_reducible rfl); done)); (try simp only [Act.put, List.setIfInBounds_toArray, List.set_cons_zero, List.set_cons_succ]); refine wpAnyH_take (i := 2) (oi := ⟨some 32, _, _, _, _, _⟩) (v := ?_) rfl (by kernel_rfl) (by kernel_rfl) (by kernel_rfl) (fun _ _ _ h => h) (Or.inl ⟨by kernel_rfl, ?_⟩) hHeld ?_; rotate_left; (focus (intro wS hSw; (try dsimp only at hSw); go_simp; (try with_reducible rfl); done)); (try simp only [Act.put, List.setIfInBounds_toArray, List.set_cons_zero, List.set_cons_succ]); refine wpAnyH_take (i := 3) (oi := ⟨some 33, _, _, _, _, _⟩) (v := ?_) rfl (by kernel_rfl) (by kernel_rfl) (by kernel_rfl) (fun _ _ _ h => h) (Or.inl ⟨by kernel_rfl, ?_⟩) hHeld ?_; rotate_left; (focus (intro wS hSw; (try dsimp only at hSw); go_simp; (try with_reducible rfl); done)); (try simp only [Act.put, List.setIfInBounds_toArray, List.set_cons_zero, List.set_cons_succ]))
        (refine wpAnyH_take (i := 5) (oi := ⟨some 35, _, _, _, _, _⟩) (v := .agg (sg.map vu8).toArray) rfl (by kernel_rfl) (by kernel_rfl) (by kernel_rfl) (fun _ _ _ h => h) (yieldsIf_load_mid (by kernel_rfl) 43 _ rfl w.heap.size 0 (by rfl) (sg.map vu8) _ (fun _ h => ?_) Tryd.underlying43 rfl i1.out) hHeld ?_; (focus ((try dsimp only at h); first | exact h | exact h.1 | exact h.2); done); (try simp only [Act.put, List.setIfInBounds_toArray, List.set_cons_zero, List.set_cons_succ]))
        (refine wpAnyH_ready (rs := [4]) (by kernel_rfl) (by simp) ?_; refine AllReadyH.cons (o := ⟨some 34, _, _, _, _, _⟩) rfl (fun K hK => ?_) AllReadyH.nil; go_simp)
        refine (hmake.out _ (Rd.drew P4) K4.out.drew).mono ?_
        rintro e w5 ⟨rfl, hb5⟩
        have X5 := X4.drew.ext hb5
        have S5 := S4.drew.ext hb5
        have B5 := ext_trans (ext_drew B4) hb5
        (refine hK.out _ _ (⟨kcell (keyed_k X5), At.of_blk S5⟩) (fun hHeld => ?_); clear hK K; (try simp only [Act.put, List.setIfInBounds_toArray, List.set_cons_zero, List.set_cons_succ]))
        (refine wpAnyH_take (i := 6) (oi := ⟨some 36, _, _, _, _, _⟩) (v := ?_) rfl (by kernel_rfl) (by kernel_rfl) (by kernel_rfl) (fun _ _ _ h => h) (Or.inl ⟨by kernel_rfl, ?_⟩) hHeld ?_; rotate_left; (focus (intro wS hSw; (try dsimp only at hSw); go_simp; (try with_reducible rfl); done)); (try simp only [Act.put, List.setIfInBounds_toArray, List.set_cons_zero, List.set_cons_succ]))
        (refine wpAnyH_done (by kernel_rfl) ?_ _)
        go_wp2_with fail
      · go_ret
        exact ⟨rfl, B5⟩
      · go_ret
        exact ⟨rfl, B5⟩
end Go.Proofs.YtbccfgeepdmegaaDoor
