/- Walks: the reference's hash: padded. -/
import Derived.Test.YtbccfgeepdmegaaDoorRhB
import Derived.Test.YtbccfgeepdmegaaDoorApp
import Derived.Test.YtbccfgeepdmegaaDoorHashD
import Derived.Test.YtbccfgeepdmegaaDoorSealK
set_option linter.unusedVariables false
set_option linter.unusedSimpArgs false
set_option linter.unnecessarySimpa false
namespace Go.Proofs.YtbccfgeepdmegaaDoor
open Go Go.RowKit Mem
set_option maxRecDepth 100000 in
set_option maxHeartbeats 4000000 in
theorem padded_any (A : Option Addr) (cap : Nat) (m : List Nat) (w : World) (hm : Rd w A (m.map vu8)) (hn : m.length ≤ 1000000) :
    Calls Tryd.prog 67 #[.slice A m.length cap] w fun e w' => ∃ v, e = .returned v ∧ w'.ownsRow w.heap.size 5 1 v (m ++ Sha.pad m.length).length ((m ++ Sha.pad m.length).map vu8) ∧ Below w.heap.size w w' := by
  obtain ⟨i0, hi, hi0, hi1, hi2⟩ := info_parts info_u8
  have hL := Rd.alloc hm (.cells #[] 5)
  have hs := Src.of_rd (size := 1) (m := m.length) hL (by simp) (by decide)
  have ho : ∀ u ∈ m.map vu8, u.oneCell' = true := by simp [vu8, Value.oneCell']
  have own0 := own_empty w 5 1
  have hb := (Below.refl w.heap.size w).alloc (Nat.le_refl _) (.cells #[] 5)
  replace hi := hide hi
  replace hi0 := hide hi0
  replace hi1 := hide hi1
  replace hi2 := hide hi2
  replace hs := hide hs
  replace ho := hide ho
  replace own0 := hide own0
  obtain ⟨N8, hN8⟩ : ∃ N8, N8 = 8 * m.length := ⟨_, rfl⟩
  have hN8I : 8 * (m.length : Int) = (N8 : Int) := by omega
  have hnI : IntKind.i64.wrap (m.length : Int) = (m.length : Int) := i64_id _ (by omega)
  have hw8 := wrap_u64_id (N8 : Int) (by omega) (by omega)
  replace hN8 := hide hN8
  go_enter Tryd.func67, Tryd.ntmps67
  go_wp2_with (first
    | (at_builtin; refine wpList_append_src rfl (.tmp 6) (.tmp 7) 89 rfl w.heap.size 5 i0 (.int .u8 0) 1 1 Tryd.underlying89 hi.out hi0.out hi1.out hi2.out rfl (by decide) _ 0 [] (by rfl) own0.out A m.length cap (m.map vu8) (by rfl) hs.out ho.out ?c1 ?c2 ?c3 ?_; (case c1 => simp only [maxLen]; omega); (case c2 => omega); (case c3 => simp); intro v1 w1 own1 g1; have B1 := below_grown1 hb (by simp) own0.out (Nat.le_refl _) g1)
    | (at_builtin; refine wpList_append_own _ rfl (.tmp 9) (.tmp 10) 89 rfl w.heap.size 5 i0 (.int .u8 0) 1 1 Tryd.underlying89 hi.out hi0.out hi1.out hi2.out rfl (by decide) _ _ _ rfl (own1.alloc _) ⟨w1.heap.size, 0, none⟩ 1 1 [.int .u8 128] rfl rfl ?c1 ?c2 ?c3 ?c4 ?c5 ?_; (case c1 => exact cell_new1 _ _ _); (case c2 => simp [Value.oneCell']); (case c3 => simp only [maxLen]; omega); (case c4 => omega); (case c5 => have := B1.size; simp; omega); intro v2 w2 own2 g2 _; have B2 := below_grown1 (ext_alloc B1 (.cells #[.int .u8 128] 5)) (by have := B1.size; simp; omega) (own1.alloc (.cells #[.int .u8 128] 5)) (Nat.le_refl _) g2))
  clear own0 g1 g2 hs ho hL hb B1 own1
  go_loopw [3] (fun b wr => ∃ (j : Nat) (v : Value), j ≤ Sha.padz m.length ∧ b = v ∧ wr.ownsRow w.heap.size 5 1 v (m.length + 1 + j) ((m ++ 128 :: List.replicate j 0).map vu8) ∧ Below w.heap.size w wr) (fun b _ => match b with | .slice _ n _ => m.length + 66 - n | _ => 0)
  case atStart =>
    refine ⟨0, _, Nat.zero_le _, rfl, ?_, B2⟩
    have e : (m ++ 128 :: List.replicate 0 0).map vu8 = [] ++ m.map vu8 ++ [.int .u8 128] := by simp [vu8]
    rw [e, Nat.add_zero]
    simpa using own2
  case round =>
    obtain ⟨j, v, hj, rfl, hown, hb⟩ := hrel
    obtain ⟨g, cap, rfl, hc1, hc2, hg1, hg2, hat⟩ := own_at hown (by omega)
    have hpz := Sha.padz_lt m.length
    have hbs := hide hb.size
    unfold maxLen at hc2
    clear hat
    have hw : ((m.length : Int) + 1 + (j : Int)) % 64 = (((m.length + (j + 1)) % 64 : Nat) : Int) := by omega
    by_cases hjz : j = Sha.padz m.length
    · have hI : (((m.length : Int) + 1 + (j : Int)) % 64 != 56) = false := by rw [hw, (Sha.padz_iff m.length j hj).2 hjz]; decide
      clear hw
      replace hjz := hide hjz
      go_wp2_with fail
      obtain ⟨wo, rfl⟩ : ∃ wo : World, wo = wr := ⟨_, rfl⟩
      go_loopw [3, 5] (fun b a wr => ∃ (i : Nat) (v : Value), i ≤ 8 ∧ a = .int .i64 i ∧ b = v ∧ wr.ownsRow w.heap.size 5 1 v (m.length + 1 + j + i) ((m ++ 128 :: List.replicate j 0 ++ (Sha.lenB N8).take i).map vu8) ∧ Below w.heap.size w wr) (fun _ a _ => 8 - (intOf a).toNat)
      case atStart => exact ⟨0, _, Nat.zero_le _, rfl, rfl, by simpa using hown, hb⟩
      case round =>
        clear hown hb hbs hg1 hg2 hc1 hc2
        obtain ⟨i, v, hi8, rfl, rfl, hown, hb⟩ := hrel
        have hbs := hide hb.size
        by_cases hlt : i < 8
        · have hsh := fun w => shr_len N8 i (by omega) w
          go_wp2_with (at_builtin; refine wpList_append_own _ rfl (.tmp 27) (.tmp 34) 89 rfl w.heap.size 5 i0 (.int .u8 0) 1 1 Tryd.underlying89 hi.out hi0.out hi1.out hi2.out rfl (by decide) _ _ _ rfl (hown.alloc _) ⟨wr.heap.size, 0, none⟩ 1 1 [.int .u8 ((N8 : Int) / 2 ^ (56 - 8 * i) % 256)] rfl rfl ?c1 ?c2 ?c3 ?c4 ?c5 ?_; (case c1 => exact cell_new1 _ _ _); (case c2 => simp [Value.oneCell']); (case c3 => simp only [maxLen]; omega); (case c4 => omega); (case c5 => have := hbs.out; simp; omega); intro v1 w1 hown1 hg1 _)
          rw [shr_byte N8 (56 - 8 * i)] at hown1
          obtain ⟨g1, cap1, rfl, _, _, _, _, _⟩ := own_at hown1 (by omega)
          go_roundw
          case rel =>
            refine ⟨i + 1, _, by omega, by go_num, rfl, ?_, own_grown' hb hbs.out hown hg1 (by omega)⟩
            rw [Sha.lenB_take N8 i hlt, ← List.append_assoc, List.map_append]; exact hown1
          case measure => simp [intOf]; omega
        · obtain rfl : i = 8 := by omega
          have hpad : (m ++ 128 :: List.replicate j 0 ++ (Sha.lenB N8).take 8) = m ++ Sha.pad m.length := by
            rw [Sha.pad_eq, hN8.out, hjz.out, List.take_of_length_le (by rw [Sha.lenB_length]; exact Nat.le_refl _)]; simp
          have hpl : (m ++ Sha.pad m.length).length = m.length + 1 + j + 8 := by rw [List.length_append, Sha.pad_length, hjz.out]; omega
          rw [hpad, ← hpl] at hown
          go_wp2_with fail
          go_ret
          exact ⟨_, rfl, hown, hb⟩
    · have hI : (((m.length : Int) + 1 + (j : Int)) % 64 != 56) = true := by
        rw [hw, bne_iff_ne]
        intro h
        exact hjz ((Sha.padz_iff m.length j hj).1 (Int.ofNat.inj h))
      clear hw
      have hlt : j < Sha.padz m.length := by omega
      clear hjz
      go_wp2_with (at_builtin; refine wpList_append_own _ rfl (.tmp 16) (.tmp 17) 89 rfl w.heap.size 5 i0 (.int .u8 0) 1 1 Tryd.underlying89 hi.out hi0.out hi1.out hi2.out rfl (by decide) _ _ _ rfl (hown.alloc _) ⟨wr.heap.size, 0, none⟩ 1 1 [.int .u8 0] rfl rfl ?c1 ?c2 ?c3 ?c4 ?c5 ?_; (case c1 => exact cell_new1 _ _ _); (case c2 => simp [Value.oneCell']); (case c3 => simp only [maxLen]; omega); (case c4 => omega); (case c5 => have := hbs.out; simp; omega); intro v1 w1 hown1 hg1 _)
      obtain ⟨g1, cap1, rfl, _, _, _, _, _⟩ := own_at hown1 (by omega)
      go_roundw
      case rel =>
        refine ⟨j + 1, _, by omega, rfl, ?_, own_grown' hb hbs.out hown hg1 (by omega)⟩
        rw [List.replicate_succ', ← List.cons_append, ← List.append_assoc, List.map_append]; exact hown1
      case measure => simp; omega
end Go.Proofs.YtbccfgeepdmegaaDoor
