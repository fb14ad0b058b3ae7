/- Walks: slices.Grow, slices.Concat of strings. -/
import Derived.Test.YtbccfgeepdmegaaDoorApp
import Derived.Test.YtbccfgeepdmegaaDoorProg
import Derived.Lib.AppendZeros
import Derived.WalkSpells
import Derived.Outline
set_option linter.unusedVariables false
set_option linter.unusedSimpArgs false
set_option linter.unnecessarySimpa false
namespace Go.Proofs.YtbccfgeepdmegaaDoor
open Go Go.RowKit Mem
theorem info_str : (Tryd.prog.info? 9).map (fun i => (i.zero, i.size, i.bytes)) = some (some (.string ⟨#[]⟩), 1, 16) := by kernel_rfl
set_option maxRecDepth 100000 in
set_option maxHeartbeats 2000000 in
theorem grow_strs (n : Nat) (w : World) (h0 : 0 < n) (hn : n ≤ 1000000) :
    Calls Tryd.prog 56 #[.slice none 0 0, .int .i64 n] w fun e w' => ∃ v, e = .returned v ∧ w'.ownsRow w.heap.size 9 1 v 0 [] ∧ Below w.heap.size w w' := by
  obtain ⟨i0, hi0, hi1, hi2, hi3⟩ := info_parts info_str
  have hrun := Lib.run_append_nil_zeros (P := Tryd.prog) w 41 3 41 9 i0 (.string ⟨#[]⟩) .i64 .i64 Tryd.underlying41 Tryd.underlying3 hi0 hi1 n h0 (by rw [hi2]; decide) (by omega) (by rw [hi3]; omega)
  have hc1 := grownCap_ge w n 0 9
  have hc2 := grownCap_le_maxLen w n 0 9 (by unfold maxLen; omega)
  obtain ⟨c, hc⟩ : ∃ c, c = grownCap w n 0 9 := ⟨_, rfl⟩
  rw [← hc] at hrun hc1 hc2
  have hb := ((Below.refl w.heap.size w).drew).alloc (Nat.le_refl _) (.cells (Builtin.zeroCells (Value.string ⟨#[]⟩).cells n ++ Builtin.zeroCells (Value.string ⟨#[]⟩).cells (c - n)) 9)
  have hown : (w.drew.alloc (.cells (Builtin.zeroCells (Value.string ⟨#[]⟩).cells n ++ Builtin.zeroCells (Value.string ⟨#[]⟩).cells (c - n)) 9)).ownsRow w.heap.size 9 1 (.slice (some ⟨w.heap.size, 0, none⟩) 0 c) 0 [] :=
    ⟨rfl, .inr ⟨w.heap.size, c, _, rfl, Nat.le_refl _, heap_alloc_new w.drew _, Nat.zero_le _, hc2, by rw [Array.size_append, size_zeroCells, size_zeroCells]; show n * 1 + (c - n) * 1 = c * 1; omega, by simp⟩⟩
  obtain ⟨W, hW, hb, hown⟩ : ∃ W, W = w.drew.alloc (.cells (Builtin.zeroCells (Value.string ⟨#[]⟩).cells n ++ Builtin.zeroCells (Value.string ⟨#[]⟩).cells (c - n)) 9) ∧ Below w.heap.size w W ∧ W.ownsRow w.heap.size 9 1 (.slice (some ⟨w.heap.size, 0, none⟩) 0 c) 0 [] := ⟨_, rfl, hb, hown⟩
  rw [← hW] at hrun
  replace hrun := hide hrun
  clear hW hi0 hi1 hi2 hi3
  replace hc := hide hc
  replace hown := hide hown
  unfold maxLen at hc2
  have z0 : (0 : Int) < (n : Int) := by omega
  go_enter Tryd.func56, Tryd.ntmps56
  go_wp2_with (at_builtin; refine Lib.wpList_append_run _ rfl (.tmp 20) (.tmp 21) 41 3 rfl _ _ (by rfl) (by rfl) _ _ hrun.out ?_)
  go_ret
  exact ⟨_, rfl, hown.out, hb⟩
/-- a slice of strings: address, capacity, content -/
abbrev Seg := Option Addr × Nat × List ByteArray
def segV (s : Seg) : Value := .slice s.1 s.2.2.length s.2.1
def allS (l : List Seg) : List ByteArray := l.flatMap (·.2.2)
theorem allS_snoc (l : List Seg) (s : Seg) : allS (l ++ [s]) = allS l ++ s.2.2 := by simp [allS]
theorem allS_take {l : List Seg} {k : Nat} {s : Seg} (h : l[k]? = some s) : allS (l.take (k + 1)) = allS (l.take k) ++ s.2.2 := by
  obtain ⟨hk, rfl⟩ := List.getElem?_eq_some_iff.mp h
  rw [List.take_succ_eq_append_getElem hk, allS_snoc]
theorem allS_le (l : List Seg) (k : Nat) : (allS (l.take k)).length ≤ (allS l).length := by
  have e : allS l = allS (l.take k) ++ allS (l.drop k) := by unfold allS; rw [← List.flatMap_append, List.take_append_drop]
  rw [e, List.length_append]; omega
attribute [irreducible] allS
set_option maxRecDepth 100000 in
set_option maxHeartbeats 4000000 in
theorem concat_strs (segs : List Seg) (g cap : Nat) (w : World) (hg : Blk w g 41 (segs.map segV)) (hr : ∀ s ∈ segs, Rd w s.1 (s.2.2.map .string)) (htot : (allS segs).length ≤ 1000000) (h0 : 0 < (allS segs).length) (hn : segs.length ≤ 1000) :
    Calls Tryd.prog 43 #[.slice (some ⟨g, 0, none⟩) segs.length cap] w fun e w' => ∃ v, e = .returned v ∧ w'.ownsRow w.heap.size 9 1 v (allS segs).length ((allS segs).map .string) ∧ Below w.heap.size w w' := by
  obtain ⟨i0, hi0, hi1, hi2, hi3⟩ := info_parts info_str
  replace hi0 := hide hi0
  replace hi1 := hide hi1
  replace hi2 := hide hi2
  replace hi3 := hide hi3
  replace hr := hide hr
  go_enter Tryd.func43, Tryd.ntmps43
  go_wp2_with fail
  go_loop [3, 11] (fun a b => ∃ k : Nat, b = .int .i64 k ∧ k ≤ segs.length ∧ a = .int .i64 ((allS (segs.take k)).length : Nat)) (fun _ b => segs.length - (intOf b).toNat)
  case atStart => exact ⟨0, rfl, Nat.zero_le _, by unfold allS; rfl⟩
  case round =>
    obtain ⟨k, rfl, hk, rfl⟩ := hrel
    by_cases hlt : k < segs.length
    · obtain ⟨s, hs⟩ : ∃ s, segs[k]? = some s := ⟨segs[k], List.getElem?_eq_getElem hlt⟩
      have hc := hg.cell (i := k) (v := segV s) (by rw [List.getElem?_map, hs]; rfl)
      unfold segV at hc
      have hnext := allS_take hs
      have hle := allS_le segs (k + 1)
      have hlen := congrArg List.length hnext
      rw [List.length_append] at hlen
      obtain ⟨m, hm⟩ : ∃ m, m = (allS (segs.take k)).length := ⟨_, rfl⟩
      rw [← hm] at hlen ⊢
      have hml : m + s.2.2.length ≤ 1000000 := by omega
      replace hlen := hide hlen
      replace hnext := hide hnext
      replace hs := hide hs
      replace hm := hide hm
      clear hle
      go_wp2_with fail
      go_round
      case rel => exact ⟨k + 1, by go_num, by omega, by rw [hlen.out]; go_num⟩
      case measure => simp [intOf]; omega
    · obtain rfl : k = segs.length := by omega
      rw [List.take_length]
      go_wp2_with (go_at_call 56; refine (grow_strs _ _ h0 htot).mono ?_; rintro e w2 ⟨v2, rfl, own2, hb2⟩; have G2 := hg.ext hb2)
      go_loopw [6, 27] (fun a b wr => ∃ (k : Nat) (v : Value), b = .int .i64 k ∧ k ≤ segs.length ∧ a = v ∧ wr.ownsRow w.heap.size 9 1 v (allS (segs.take k)).length ((allS (segs.take k)).map .string) ∧ Blk wr g 41 (segs.map segV) ∧ Below w.heap.size w wr) (fun _ b _ => segs.length - (intOf b).toNat)
      case atStart => exact ⟨0, v2, rfl, Nat.zero_le _, rfl, by unfold allS; exact own2, G2, hb2⟩
      case round =>
        clear own2 hb2 G2
        obtain ⟨k, v, rfl, hk, rfl, hown, hG, hb⟩ := hrel
        by_cases hlt : k < segs.length
        · obtain ⟨s, hs⟩ : ∃ s, segs[k]? = some s := ⟨segs[k], List.getElem?_eq_getElem hlt⟩
          have hc := hG.cell (i := k) (v := segV s) (by rw [List.getElem?_map, hs]; rfl)
          unfold segV at hc
          have hnext := allS_take hs
          have hle := allS_le segs (k + 1)
          have hlen := congrArg List.length hnext
          rw [List.length_append] at hlen
          have hml : (allS (segs.take k)).length + s.2.2.length ≤ 1000000 := by omega
          have hsrc := Src.of_rd (size := 1) (m := s.2.2.length) (Rd.below (hr.out s (List.mem_of_getElem? hs)) hb) (by simp) (by decide)
          replace hsrc := hide hsrc
          replace hlen := hide hlen
          replace hnext := hide hnext
          replace hs := hide hs
          clear hle
          have hgl := hg.lt
          have hbs := hb.size
          go_wp2_with (at_builtin; refine wpList_append_src rfl (.tmp 31) (.tmp 32) 41 rfl w.heap.size 9 i0 (.string ⟨#[]⟩) 1 16 Tryd.underlying41 hi0.out hi1.out hi2.out hi3.out rfl (by decide) _ _ _ (by rfl) hown s.1 s.2.2.length s.2.1 (s.2.2.map .string) (by rfl) hsrc.out ?c0 ?c1 ?c2 hbs ?_; (case c0 => intro u hu; obtain ⟨x, _, rfl⟩ := List.mem_map.1 hu; rfl); (case c1 => simp only [maxLen]; omega); (case c2 => omega); intro v3 w3 own3 g3; have B3 := below_grown1 hb hbs hown (Nat.le_refl _) g3; have G3 : Blk w3 g 41 (segs.map segV) := (g3.block g hG.lt (fun e => by have := own_ge hown g e.symm; omega)).trans hG)
          go_roundw
          case rel => exact ⟨k + 1, v3, by go_num, by omega, rfl, by rw [hnext.out, List.length_append, List.map_append]; exact own3, G3, B3⟩
          case measure => simp [intOf]; omega
        · obtain rfl : k = segs.length := by omega
          rw [List.take_length] at hown
          go_wp2_with fail
          go_ret
          exact ⟨_, rfl, hown, hb⟩
end Go.Proofs.YtbccfgeepdmegaaDoor
