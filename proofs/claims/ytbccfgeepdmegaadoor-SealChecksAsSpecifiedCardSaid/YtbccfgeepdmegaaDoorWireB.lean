/- Walks: the reference's Int and Bytes. -/
import Derived.Test.YtbccfgeepdmegaaDoorWireA
set_option linter.unusedVariables false
set_option linter.unusedSimpArgs false
set_option linter.unnecessarySimpa false
namespace Go.Proofs.YtbccfgeepdmegaaDoor
open Go Go.RowKit Mem
set_option maxRecDepth 100000 in
set_option maxHeartbeats 1000000 in
theorem rint_any (n : Int) (w : World) (h0 : -9223372036854775808 ≤ n) (h1 : n < 9223372036854775808) :
    Calls Tryd.prog 70 #[.int .i64 n] w (RetB w (Wire.int n)) := by
  by_cases hn : n < 0
  · go_enter Tryd.func70, Tryd.ntmps70
    go_wp2_with fail
    have hzg : (-1 - n) * 2 + 1 = ((Wire.zig n : Nat) : Int) := by rw [Wire.zig_eq, if_neg (by omega)]; omega
    have hz0 := Wire.zig_lt h0 h1
    rw [hzg]
    clear hzg
    generalize hzd : Wire.zig n = z0 at *
    replace hzd := hide hzd
    have hlen := Wire.vint_len10 hz0
    obtain ⟨i0, hi, hi0, hi1, hi2⟩ := info_parts info_u8
    replace hz0 := hide hz0
    clear h0 h1
    replace hi := hide hi
    replace hi0 := hide hi0
    replace hi1 := hide hi1
    replace hi2 := hide hi2
    go_loopw [3, 4] (fun a b wr => ∃ (z : Nat) (pre : List Nat) (v : Value), z ≤ z0 ∧ Hid (Wire.vint z0 = pre ++ Wire.vint z) ∧ a = .int .u64 z ∧ b = v ∧ wr.ownsRow w.heap.size 5 1 v pre.length (pre.map vu8) ∧ Below w.heap.size w wr) (fun a _ _ => (intOf a).toNat)
    case atStart => exact ⟨z0, [], _, Nat.le_refl _, hide rfl, rfl, rfl, ⟨rfl, .inl ⟨rfl, rfl⟩⟩, Below.refl _ _⟩
    case round =>
      obtain ⟨z, pre, v, hz, hv, rfl, rfl, hown, hb⟩ := hrel
      have hsz := hb.size
      by_cases hlt : 127 < z
      · have hbig := Wire.vint_big (z := z) (by omega)
        rw [hbig] at hv
        have hpl : pre.length + 1 ≤ 10 := by
          have := congrArg List.length hv.out; simp at this; omega
        have hbase : w.heap.size ≤ wr.heap.size := hsz
        have hw := wrap_u64_id ((z : Int) / 128) (by omega) (by have := hz0.out; omega)
        clear hbig
        go_wp2_with (at_builtin; refine wpList_append_own _ rfl (.tmp 17) (.tmp 22) 89 rfl w.heap.size 5 i0 (.int .u8 0) 1 1 Tryd.underlying89 hi.out hi0.out hi1.out hi2.out rfl (by decide) _ _ _ rfl (hown.alloc _) ⟨wr.heap.size, 0, none⟩ 1 1 [.int .u8 ((z % 128 + 128 : Nat) : Int)] rfl rfl ?c1 ?c2 ?c3 ?c4 ?c5 ?_; (case c1 => exact cell_new1 _ _ _); (case c2 => simp [Value.oneCell']); (case c3 => simp only [maxLen]; omega); (case c4 => omega); (case c5 => simp; omega); intro v1 w1 hown1 hg1 _; have hb1 := own_grown hb hsz hown hg1; clear hown hb hg1)
        go_roundw
        case rel =>
          refine ⟨z / 128, pre ++ [z % 128 + 128], v1, by omega, ?_, by simp, rfl, ?_, hb1⟩
          · have := hv.out
            exact hide (by rw [this, List.append_assoc]; rfl)
          · simpa [vu8] using hown1
        case measure => simp [intOf]; omega
      · have hsm := Wire.vint_small (z := z) (by omega)
        rw [hsm] at hv
        have hpl : pre.length + 1 ≤ 10 := by
          have := congrArg List.length hv.out; simp at this; omega
        have ho : (z : Int) % 256 = (z : Int) := by omega
        have hbase : w.heap.size ≤ wr.heap.size := hsz
        clear hsm
        go_wp2_with (at_builtin; refine wpList_append_own _ rfl (.tmp 26) (.tmp 29) 89 rfl w.heap.size 5 i0 (.int .u8 0) 1 1 Tryd.underlying89 hi.out hi0.out hi1.out hi2.out rfl (by decide) _ _ _ rfl (hown.alloc _) ⟨wr.heap.size, 0, none⟩ 1 1 [.int .u8 (z : Int)] rfl rfl ?c1 ?c2 ?c3 ?c4 ?c5 ?_; (case c1 => exact cell_new1 _ _ _); (case c2 => simp [Value.oneCell']); (case c3 => simp only [maxLen]; omega); (case c4 => omega); (case c5 => simp; omega); intro v1 w1 hown1 hg1 _; have hb1 := own_grown hb hsz hown hg1; clear hown hb hg1)
        go_ret
        refine ⟨v1, rfl, ?_, hb1⟩
        rw [Wire.int_eq, hzd.out, hv.out]
        simpa [vu8] using hown1
  · go_enter Tryd.func70, Tryd.ntmps70
    go_wp2_with fail
    have hzg : n * 2 = ((Wire.zig n : Nat) : Int) := by rw [Wire.zig_eq, if_pos (by omega)]; omega
    have hz0 := Wire.zig_lt h0 h1
    rw [hzg]
    clear hzg
    generalize hzd : Wire.zig n = z0 at *
    replace hzd := hide hzd
    have hlen := Wire.vint_len10 hz0
    obtain ⟨i0, hi, hi0, hi1, hi2⟩ := info_parts info_u8
    replace hz0 := hide hz0
    clear h0 h1
    replace hi := hide hi
    replace hi0 := hide hi0
    replace hi1 := hide hi1
    replace hi2 := hide hi2
    go_loopw [3, 4] (fun a b wr => ∃ (z : Nat) (pre : List Nat) (v : Value), z ≤ z0 ∧ Hid (Wire.vint z0 = pre ++ Wire.vint z) ∧ a = .int .u64 z ∧ b = v ∧ wr.ownsRow w.heap.size 5 1 v pre.length (pre.map vu8) ∧ Below w.heap.size w wr) (fun a _ _ => (intOf a).toNat)
    case atStart => exact ⟨z0, [], _, Nat.le_refl _, hide rfl, rfl, rfl, ⟨rfl, .inl ⟨rfl, rfl⟩⟩, Below.refl _ _⟩
    case round =>
      obtain ⟨z, pre, v, hz, hv, rfl, rfl, hown, hb⟩ := hrel
      have hsz := hb.size
      by_cases hlt : 127 < z
      · have hbig := Wire.vint_big (z := z) (by omega)
        rw [hbig] at hv
        have hpl : pre.length + 1 ≤ 10 := by
          have := congrArg List.length hv.out; simp at this; omega
        have hbase : w.heap.size ≤ wr.heap.size := hsz
        have hw := wrap_u64_id ((z : Int) / 128) (by omega) (by have := hz0.out; omega)
        clear hbig
        go_wp2_with (at_builtin; refine wpList_append_own _ rfl (.tmp 17) (.tmp 22) 89 rfl w.heap.size 5 i0 (.int .u8 0) 1 1 Tryd.underlying89 hi.out hi0.out hi1.out hi2.out rfl (by decide) _ _ _ rfl (hown.alloc _) ⟨wr.heap.size, 0, none⟩ 1 1 [.int .u8 ((z % 128 + 128 : Nat) : Int)] rfl rfl ?c1 ?c2 ?c3 ?c4 ?c5 ?_; (case c1 => exact cell_new1 _ _ _); (case c2 => simp [Value.oneCell']); (case c3 => simp only [maxLen]; omega); (case c4 => omega); (case c5 => simp; omega); intro v1 w1 hown1 hg1 _; have hb1 := own_grown hb hsz hown hg1; clear hown hb hg1)
        go_roundw
        case rel =>
          refine ⟨z / 128, pre ++ [z % 128 + 128], v1, by omega, ?_, by simp, rfl, ?_, hb1⟩
          · have := hv.out
            exact hide (by rw [this, List.append_assoc]; rfl)
          · simpa [vu8] using hown1
        case measure => simp [intOf]; omega
      · have hsm := Wire.vint_small (z := z) (by omega)
        rw [hsm] at hv
        have hpl : pre.length + 1 ≤ 10 := by
          have := congrArg List.length hv.out; simp at this; omega
        have ho : (z : Int) % 256 = (z : Int) := by omega
        have hbase : w.heap.size ≤ wr.heap.size := hsz
        clear hsm
        go_wp2_with (at_builtin; refine wpList_append_own _ rfl (.tmp 26) (.tmp 29) 89 rfl w.heap.size 5 i0 (.int .u8 0) 1 1 Tryd.underlying89 hi.out hi0.out hi1.out hi2.out rfl (by decide) _ _ _ rfl (hown.alloc _) ⟨wr.heap.size, 0, none⟩ 1 1 [.int .u8 (z : Int)] rfl rfl ?c1 ?c2 ?c3 ?c4 ?c5 ?_; (case c1 => exact cell_new1 _ _ _); (case c2 => simp [Value.oneCell']); (case c3 => simp only [maxLen]; omega); (case c4 => omega); (case c5 => simp; omega); intro v1 w1 hown1 hg1 _; have hb1 := own_grown hb hsz hown hg1; clear hown hb hg1)
        go_ret
        refine ⟨v1, rfl, ?_, hb1⟩
        rw [Wire.int_eq, hzd.out, hv.out]
        simpa [vu8] using hown1
set_option maxRecDepth 100000 in
set_option maxHeartbeats 1000000 in
theorem rbytes_any (s : ByteArray) (w : World) (hs : s.size ≤ 140737488351232) : Calls Tryd.prog 64 #[.string s] w (RetB w (Wire.bytes (Bs s))) := by
  have hil := Wire.int_len (n := (s.size : Int)) (by omega) (by omega)
  obtain ⟨i0, hi, hi0, hi1, hi2⟩ := info_parts info_u8
  replace hi := hide hi
  replace hi0 := hide hi0
  replace hi1 := hide hi1
  replace hi2 := hide hi2
  go_enter Tryd.func64, Tryd.ntmps64
  go_wp2_with (first | (go_at_call 70; refine (rint_any _ _ (by omega) (by omega)).mono ?_; rintro e w1 ⟨v, rfl, hown, hb⟩; have hsz := hb.size) | (at_builtin; refine Lib.wpList_append_own_string _ rfl (.tmp 5) (.tmp 6) 89 9 rfl w.heap.size 5 i0 Tryd.underlying89 Tryd.underlying9 hi.out hi0.out hi1.out hi2.out _ _ _ rfl hown s rfl ?c1 ?c2 ?c3 ?_; (case c1 => simp only [maxLen]; omega); (case c2 => omega); (case c3 => exact hsz); intro v1 w2 hown1 hg1 _; have hb1 := hb.grown hg1 hsz (own_ge hown); clear hown hb hg1))
  go_ret
  refine ⟨v1, rfl, ?_, hb1⟩
  have e1 : Wire.bytes (Bs s) = Wire.int (s.size : Int) ++ Bs s := by unfold Wire.bytes; rw [Bs_length]
  rw [e1, List.length_append, List.map_append, Bs_length]
  have e2 : Lib.strCells s = (Bs s).map vu8 := by simp only [Lib.strCells, Bs, List.map_map]; rfl
  rw [← e2]; exact hown1
end Go.Proofs.YtbccfgeepdmegaaDoor
