/- Walks: Begin, Stream.Add. -/
import Derived.Test.YtbccfgeepdmegaaDoorHashB
import Derived.Test.YtbccfgeepdmegaaDoorSha2
import Derived.Deep.RegionWith
import Derived.Deep.Light
set_option linter.unusedVariables false
set_option linter.unusedSimpArgs false
set_option linter.unnecessarySimpa false
namespace Go.Proofs.YtbccfgeepdmegaaDoor
open Go Go.RowKit Mem
/-- a stream's cells -/
def stC (st : Sha.St) : List Value := st.s.list.map vu32 ++ (st.blk.map vu8 ++ [.int .u64 st.n])
theorem stC_length (st : Sha.St) (h : st.blk.length = 64) : (stC st).length = 73 := by simp [stC, Sha.S8.list, h]
theorem stC_n (st : Sha.St) (h : st.blk.length = 64) : (stC st)[72]? = some (.int .u64 st.n) := by
  simp [stC, Sha.S8.list, h]
theorem stC_over (st : Sha.St) (h : st.blk.length = 64) (a n : Nat) (cs : List Nat) (hcs : cs.length = n) (hle : a + n ≤ 64) :
    (stC st).take (8 + a) ++ cs.map vu8 ++ (stC st).drop (8 + a + n) = stC ⟨st.s, Sha.over st.blk a cs, st.n⟩ := by
  have e : (st.s.list.map vu32).length = 8 := rfl
  have e2 : (st.blk.map vu8).length = 64 := by simpa using h
  unfold stC Sha.over
  rw [List.take_append, List.drop_append, e, List.take_of_length_le (by rw [e]; omega), List.drop_eq_nil_of_le (by rw [e]; omega), List.take_append, List.drop_append, e2, hcs]
  simp only [show 8 + a - 8 = a by omega, show 8 + a + n - 8 = a + n by omega, show a - 64 = 0 by omega, show a + n - 64 = 0 by omega, List.take_zero, List.drop_zero, List.map_append, List.map_take, List.map_drop, List.append_assoc, List.nil_append, List.append_nil]
theorem stC_setn (st : Sha.St) (h : st.blk.length = 64) (m : Nat) : (stC st).set 72 (.int .u64 m) = stC ⟨st.s, st.blk, m⟩ := by
  unfold stC
  rw [List.set_append_right _ _ (by simp [Sha.S8.list]), List.set_append_right _ _ (by simp [Sha.S8.list, h])]
  simp [Sha.S8.list, h]
theorem stC_blk (st : Sha.St) (h : st.blk.length = 64) : ((stC st).drop 8).take 64 = st.blk.map vu8 := by
  have e : (st.s.list.map vu32).length = 8 := rfl
  have e2 : (st.blk.map vu8).length = 64 := by simpa using h
  unfold stC
  rw [List.drop_append, e, List.drop_eq_nil_of_le (by rw [e]; omega), Nat.sub_self, List.drop_zero, List.nil_append, List.take_append, e2, Nat.sub_self, List.take_zero, List.append_nil, List.take_of_length_le (by rw [e2]; omega)]
theorem stC_zero : stC ⟨⟨0, 0, 0, 0, 0, 0, 0, 0⟩, List.replicate 64 0, 0⟩ = List.replicate 8 (.int .u32 0) ++ (List.replicate 64 (.int .u8 0) ++ [.int .u64 0]) := rfl
set_option maxRecDepth 100000 in
set_option maxHeartbeats 2000000 in
theorem add_any (st : Sha.St) (text : ByteArray) (w : World) (hst : st.ok) (hn : st.n + text.size < 4611686018427387904) (hK : At w 0 0 (Sha.K.map vu32)) :
    Calls Tryd.prog 53 #[.agg (stC st).toArray, .string text] w fun e w' => e = .returned (.agg (stC (Sha.feed st (Bs text))).toArray) ∧ Below w.heap.size w w' := by
  replace hst := hide hst
  replace hK := hide hK
  go_enter Tryd.func53, Tryd.ntmps53
  go_wp2_with fail
  go_loopw [1] (fun sv wr => ∃ (pre : List Nat) (tx : ByteArray), Hid (Bs text = pre ++ Bs tx) ∧ sv = .string tx ∧ Blk wr w.heap.size 86 (stC (Sha.feed st pre)) ∧ Blk wr (w.heap.size + 1) 86 Tryd.zeroCells86.toList ∧ Below w.heap.size w wr) (fun sv _ => match sv with | .string tx => tx.size | _ => 0)
  case atStart => exact ⟨[], text, hide rfl, rfl, by rw [Sha.feed_nil]; exact (Blk.new w _ _).alloc _, blk_new1 w _ _ _, ((Below.refl _ _).alloc (Nat.le_refl _) _).alloc (by simp) _⟩
  case round =>
    obtain ⟨pre, tx, htx, rfl, k0, k1, hb⟩ := hrel
    have hpl : pre.length + tx.size = text.size := by have := congrArg List.length htx.out; simpa [Bs_length] using this.symm
    have hsn : (Sha.feed st pre).n = st.n + pre.length := Sha.feed_n _ _
    have hso : (Sha.feed st pre).ok := Sha.feed_ok hst.out (fun x hx => Bs_lt text x (by rw [htx.out]; simp [hx]))
    obtain ⟨s1, hs1⟩ : ∃ s1, s1 = Sha.feed st pre := ⟨_, rfl⟩
    rw [← hs1] at k0 hsn hso
    replace hs1 := hide hs1
    have hnl : s1.n + tx.size < 4611686018427387904 := by omega
    clear hsn hpl
    by_cases h0 : tx.size = 0
    · have hem := str_nil h0
      have hfin : stC (Sha.feed st (Bs text)) = stC s1 := by
        have e : Bs tx = [] := List.eq_nil_of_length_eq_zero (by rw [Bs_length]; exact h0)
        rw [htx.out, e, List.append_nil, hs1.out]
      have hL := stC_length s1 hso.2.1
      replace hL : (Tryd.prog.info? 86).map (·.size) = some (stC s1).length := by rw [hL]; kernel_rfl
      have hL2 : (Tryd.zeroCells86.toList).length = (stC s1).length := by rw [stC_length s1 hso.2.1]; kernel_rfl
      have hL3 : (stC s1).all (·.oneCell') = true := by simp [stC, vu32, vu8, Value.oneCell']
      replace hL2 := hide hL2
      replace hL3 := hide hL3
      replace hfin := hide hfin
      replace hso := hide hso
      go_wp2_with (first | ((refine at_op (.load 86 (.tmp 2)) (by with_reducible rfl) ?_); refine wpList_load_blk rfl 86 (.tmp 2) rfl w.heap.size ?cA 86 _ _ k0 Tryd.underlying86 rfl hL ?_; (case cA => simp [Act.eval]; done)) | ((refine at_op (.store 86 (.tmp 4) (.tmp 37)) (by with_reducible rfl) ?_); refine wpList_store_blk rfl 86 _ _ rfl (w.heap.size + 1) (stC s1) ?cC ?cD 86 _ k1 hL hL2.out hL3.out ?_; (case cC => simp [Act.eval, Act.put]; done); (case cD => simp [Act.eval, Act.put]; done)))
      exact ret_blk rfl (w.heap.size + 1) _ _ _ rfl (k1.setRow _) Tryd.underlying86 rfl hL rfl ⟨by rw [hfin.out], below_setRow hb (by omega) _⟩
    · have hlen := stC_length s1 hso.2.1
      have cn := k0.cell (stC_n s1 hso.2.1)
      replace hso := hide hso
      have hem := str_ne h0
      obtain ⟨at_, hat⟩ : ∃ at_, at_ = s1.n % 64 := ⟨_, rfl⟩
      have hat64 : at_ < 64 := by omega
      have hatI : (s1.n : Int) % 64 = (at_ : Int) := by omega
      replace hat := hide hat
      have hle : (at_ : Int) ≤ 64 := by omega
      have hge : (0 : Int) ≤ (at_ : Int) := by omega
      obtain ⟨k, hk⟩ : ∃ k, k = min tx.size (64 - at_) := ⟨_, rfl⟩
      have hk1 : 0 < k := by omega
      have hk2 : at_ + k ≤ 64 := by omega
      have hk3 : k ≤ tx.size := by omega
      have hov := stC_over s1 hso.out.2.1 at_ k ((Bs tx).take k) (by rw [List.length_take, Bs_length]; omega) hk2
      have k3 := k0.setRow (stC ⟨s1.s, Sha.over s1.blk at_ ((Bs tx).take k), s1.n⟩)
      have k4 := k1.setRow_ne (b' := w.heap.size) (by omega) (stC ⟨s1.s, Sha.over s1.blk at_ ((Bs tx).take k), s1.n⟩).toArray
      have hb3 := below_setRow hb (Nat.le_refl _) (stC ⟨s1.s, Sha.over s1.blk at_ ((Bs tx).take k), s1.n⟩).toArray
      have hbl : (Sha.over s1.blk at_ ((Bs tx).take k)).length = 64 := by rw [Sha.over_length _ _ _ (by rw [List.length_take, Bs_length, hso.out.2.1]; omega)]; exact hso.out.2.1
      have hfit : 8 + at_ + k ≤ (stC s1).length := by rw [hlen]; omega
      have hcl : ((Bs tx).take k).length = k := by rw [List.length_take, Bs_length]; omega
      have hpre : Sha.feed st (pre ++ (Bs tx).take k) = if at_ + k = 64 then (⟨Sha.compress s1.s (Sha.over s1.blk at_ ((Bs tx).take k)), Sha.over s1.blk at_ ((Bs tx).take k), s1.n + k⟩ : Sha.St) else ⟨s1.s, Sha.over s1.blk at_ ((Bs tx).take k), s1.n + k⟩ := by
        have hfd := Sha.feed_chunk ((Bs tx).take k) s1 hso.out.2.1 (by rw [hcl, ← hat.out]; exact hk2) (by rw [hcl]; exact hk1)
        rw [hcl, ← hat.out] at hfd
        rw [Sha.feed_append, ← hs1.out, hfd]
      have htx2 : Bs text = (pre ++ (Bs tx).take k) ++ Bs (tx.extract k tx.size) := by
        rw [Bs_extract, List.take_of_length_le (l := (Bs tx).drop k) (by rw [List.length_drop, Bs_length]; omega), List.append_assoc, List.take_append_drop]; exact htx.out
      have hsz2 : (tx.extract k tx.size).size = tx.size - k := by rw [← Bs_length, Bs_extract]; simp [Bs_length]
      replace htx2 := hide htx2
      replace hpre := hide hpre
      replace hsz2 := hide hsz2
      replace hcl := hide hcl
      replace hk := hide hk
      replace hov := hide hov
      replace hfit := hide hfit
      replace k3 := hide k3
      replace k4 := hide k4
      replace hb3 := hide hb3
      replace hbl := hide hbl
      replace hlen := hide hlen
      by_cases hf : at_ + k = 64
      · have hfb : (((at_ : Int) + (k : Int)) == 64) = true := by simp; omega
        go_wp2_with ((with_reducible refine at_dst 17 (by with_reducible rfl) ?_); refine wpList_copy_str rfl (.tmp 15) (.tmp 16) 89 9 rfl 5 Tryd.underlying89 (by kernel_rfl) w.heap.size (8 + at_) (64 - at_) (64 - at_) k tx ?c1 ?c2 _ 86 k0 hk.out hfit.out ?_; (case c1 => simp [Act.eval]; done); (case c2 => simp [Act.eval]; done); rw [hov.out]; (replace k3 := k3.out); (replace k4 := k4.out); (replace hb3 := hb3.out); generalize wr.setRow w.heap.size (stC ⟨s1.s, Sha.over s1.blk at_ ((Bs tx).take k), s1.n⟩).toArray = w3 at *; clear k0 k1 hb cn; have cn := k3.cell (stC_n _ hbl.out); have fn := k3.frozen)
        have e5 : (s1.n : Int) + (k : Int) = ((s1.n + k : Nat) : Int) := by omega
        have k5 := k3.set 72 (.int .u64 ((s1.n : Int) + (k : Int)))
        rw [e5, stC_setn _ hbl.out, ← e5] at k5
        have k6 := k4.set_ne (b' := w.heap.size) (by omega) 72 (.int .u64 ((s1.n : Int) + (k : Int)))
        have hb5 := hb3.setCell (p := ⟨w.heap.size, 72, none⟩) (by simp) (.int .u64 ((s1.n : Int) + (k : Int)))
        clear e5
        generalize w3.setCell ⟨w.heap.size, 72, none⟩ (.int .u64 ((s1.n : Int) + (k : Int))) = w5 at *
        clear k3 k4 hb3 cn fn hfb
        have c0 : w5.cell? ⟨w.heap.size, 0, none⟩ = some (.int .u32 s1.s.a) := k5.cell (i := 0) rfl
        have c1 : w5.cell? ⟨w.heap.size, 1, none⟩ = some (.int .u32 s1.s.b) := k5.cell (i := 1) rfl
        have c2 : w5.cell? ⟨w.heap.size, 2, none⟩ = some (.int .u32 s1.s.c) := k5.cell (i := 2) rfl
        have c3 : w5.cell? ⟨w.heap.size, 3, none⟩ = some (.int .u32 s1.s.d) := k5.cell (i := 3) rfl
        have c4 : w5.cell? ⟨w.heap.size, 4, none⟩ = some (.int .u32 s1.s.e) := k5.cell (i := 4) rfl
        have c5 : w5.cell? ⟨w.heap.size, 5, none⟩ = some (.int .u32 s1.s.f) := k5.cell (i := 5) rfl
        have c6 : w5.cell? ⟨w.heap.size, 6, none⟩ = some (.int .u32 s1.s.g) := k5.cell (i := 6) rfl
        have c7 : w5.cell? ⟨w.heap.size, 7, none⟩ = some (.int .u32 s1.s.h) := k5.cell (i := 7) rfl
        have hat8 : At w5 w.heap.size 8 ((Sha.over s1.blk at_ ((Bs tx).take k)).map vu8) := by
          have := (At.of_blk k5).sub 8 64
          rwa [stC_blk _ hbl.out, Nat.zero_add] at this
        have hblt : ∀ x ∈ Sha.over s1.blk at_ ((Bs tx).take k), x < 256 := Sha.over_lt hso.out.2.2 (fun x hx => Bs_lt tx x (List.mem_of_mem_take hx))
        have hN5 : w.heap.size < w5.heap.size := k5.lt
        have hcall : ∀ W : World, (∀ i v, At W w.heap.size i v ↔ At w5 w.heap.size i v) → (∀ i v, At W 0 i v ↔ At w5 0 i v) → W.heap.size = w5.heap.size → Calls Tryd.prog 61 #[.agg #[.int .u32 s1.s.a, .int .u32 s1.s.b, .int .u32 s1.s.c, .int .u32 s1.s.d, .int .u32 s1.s.e, .int .u32 s1.s.f, .int .u32 s1.s.g, .int .u32 s1.s.h], .slice (some ⟨w.heap.size, 8, none⟩) 64 64] W fun e w' => e = .returned (.agg #[.int .u32 (Sha.compress s1.s (Sha.over s1.blk at_ ((Bs tx).take k))).a, .int .u32 (Sha.compress s1.s (Sha.over s1.blk at_ ((Bs tx).take k))).b, .int .u32 (Sha.compress s1.s (Sha.over s1.blk at_ ((Bs tx).take k))).c, .int .u32 (Sha.compress s1.s (Sha.over s1.blk at_ ((Bs tx).take k))).d, .int .u32 (Sha.compress s1.s (Sha.over s1.blk at_ ((Bs tx).take k))).e, .int .u32 (Sha.compress s1.s (Sha.over s1.blk at_ ((Bs tx).take k))).f, .int .u32 (Sha.compress s1.s (Sha.over s1.blk at_ ((Bs tx).take k))).g, .int .u32 (Sha.compress s1.s (Sha.over s1.blk at_ ((Bs tx).take k))).h]) ∧ Below W.heap.size W w' :=
          fun W h1 h2 h3 => compress_any s1.s.a s1.s.b s1.s.c s1.s.d s1.s.e s1.s.f s1.s.g s1.s.h w.heap.size 8 64 _ W hbl.out (by omega) (by omega) hblt ((h1 _ _).2 hat8) (by rw [h3]; exact hN5) ((h2 _ _).2 (hK.out.below hb5)) hso.out.1
        replace hcall := hide hcall
        replace hblt := hide hblt
        replace hat8 := hide hat8
        go_region_with (go_at_call 61; refine (hcall.out w5.drew (fun _ _ => Iff.rfl) (fun _ _ => Iff.rfl) rfl).mono ?_; rintro e w6 ⟨rfl, hb6⟩; have k7 := (Blk.drew k5).below hb6 hN5; have k8 := (Blk.drew k6).below hb6 k6.lt; have hb8 := hb5.drew.trans (hb6.mono (Nat.le_of_lt hN5)); have f7 := k7.frozen; have z0 : w6.cell? ⟨w.heap.size, 0, none⟩ = some (.int .u32 s1.s.a) := k7.cell (i := 0) rfl; have z1 : w6.cell? ⟨w.heap.size, 1, none⟩ = some (.int .u32 s1.s.b) := k7.cell (i := 1) rfl; have z2 : w6.cell? ⟨w.heap.size, 2, none⟩ = some (.int .u32 s1.s.c) := k7.cell (i := 2) rfl; have z3 : w6.cell? ⟨w.heap.size, 3, none⟩ = some (.int .u32 s1.s.d) := k7.cell (i := 3) rfl; have z4 : w6.cell? ⟨w.heap.size, 4, none⟩ = some (.int .u32 s1.s.e) := k7.cell (i := 4) rfl; have z5 : w6.cell? ⟨w.heap.size, 5, none⟩ = some (.int .u32 s1.s.f) := k7.cell (i := 5) rfl; have z6 : w6.cell? ⟨w.heap.size, 6, none⟩ = some (.int .u32 s1.s.g) := k7.cell (i := 6) rfl; have z7 : w6.cell? ⟨w.heap.size, 7, none⟩ = some (.int .u32 s1.s.h) := k7.cell (i := 7) rfl)
        all_goals
          go_wp2_with fail
          refine ⟨⟨pre ++ (Bs tx).take k, tx.extract k tx.size, htx2, rfl, ?_, ?_, ?_⟩, ?_⟩
          · have h := hpre.out
            rw [if_pos hf] at h
            rw [h]
            exact ((((((((k7.set 0 _).set 1 _).set 2 _).set 3 _).set 4 _).set 5 _).set 6 _).set 7 _)
          · exact ((((((((k8.set_ne (by omega) 0 _).set_ne (by omega) 1 _).set_ne (by omega) 2 _).set_ne (by omega) 3 _).set_ne (by omega) 4 _).set_ne (by omega) 5 _).set_ne (by omega) 6 _).set_ne (by omega) 7 _)
          · exact ((((((((hb8.setCell (Nat.le_refl _) _).setCell (Nat.le_refl _) _).setCell (Nat.le_refl _) _).setCell (Nat.le_refl _) _).setCell (Nat.le_refl _) _).setCell (Nat.le_refl _) _).setCell (Nat.le_refl _) _).setCell (Nat.le_refl _) _)
          · have := hsz2.out; simp only; omega
      · have hfb : (((at_ : Int) + (k : Int)) == 64) = false := by simp; omega
        go_wp2_with ((with_reducible refine at_dst 17 (by with_reducible rfl) ?_); refine wpList_copy_str rfl (.tmp 15) (.tmp 16) 89 9 rfl 5 Tryd.underlying89 (by kernel_rfl) w.heap.size (8 + at_) (64 - at_) (64 - at_) k tx ?c1 ?c2 _ 86 k0 hk.out hfit.out ?_; (case c1 => simp [Act.eval]; done); (case c2 => simp [Act.eval]; done); rw [hov.out]; (replace k3 := k3.out); (replace k4 := k4.out); (replace hb3 := hb3.out); generalize wr.setRow w.heap.size (stC ⟨s1.s, Sha.over s1.blk at_ ((Bs tx).take k), s1.n⟩).toArray = w3 at *; clear k0 k1 hb cn; have cn := k3.cell (stC_n _ hbl.out); have fn := k3.frozen)
        go_light
        rw [show (s1.n : Int) + (k : Int) = ((s1.n + k : Nat) : Int) by omega]
        have k5 := k3.set 72 (.int .u64 ((s1.n + k : Nat) : Int))
        rw [stC_setn _ hbl.out] at k5
        refine ⟨⟨pre ++ (Bs tx).take k, tx.extract k tx.size, htx2, rfl, ?_, k4.set_ne (by omega) _ _, hb3.setCell (by simp) _⟩, ?_⟩
        · have h := hpre.out
          rw [if_neg hf] at h
          rw [h]; exact k5
        · have := hsz2.out; simp only; omega
end Go.Proofs.YtbccfgeepdmegaaDoor
