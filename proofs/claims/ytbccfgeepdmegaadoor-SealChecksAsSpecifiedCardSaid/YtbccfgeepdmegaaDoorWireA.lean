/- Walks: wire.Int, wire.Bytes and the reference's. -/
import Derived.Test.YtbccfgeepdmegaaDoorProg
import Derived.Test.YtbccfgeepdmegaaDoorMem
import Derived.Test.YtbccfgeepdmegaaDoorWire0
import Derived.WalkSpells
import Derived.Deep.LoopGhost
import Derived.Deep.Light
import Derived.Outline
import Derived.Laws.BitsAllLaws
import Derived.Laws.NewBlocks
import Derived.OwnWalk
import Derived.Lib.AppendStr
set_option linter.unusedVariables false
set_option linter.unusedSimpArgs false
set_option linter.unnecessarySimpa false
namespace Go.Proofs.YtbccfgeepdmegaaDoor
open Go Go.RowKit Mem
theorem own_ge {w : World} {base e size n : Nat} {v : Value} {xs : List Value} (h : w.ownsRow base e size v n xs) : ∀ k, v.ownBlock = some k → base ≤ k := by
  intro k hk
  rcases h.2 with ⟨rfl, _⟩ | ⟨g, cap, cur, rfl, hg, _⟩
  · simp [Value.ownBlock] at hk
  · simp only [Value.ownBlock, Option.some.injEq] at hk; omega
theorem own_grown {w0 w w' : World} {base e size n : Nat} {o : Obj} {v : Value} {xs : List Value} (hb : Below base w0 w) (hs : base ≤ w.heap.size) (h : w.ownsRow base e size v n xs) (hg : (w.alloc o).grownBy w' v.ownBlock) : Below base w0 w' :=
  (hb.alloc hs o).grown hg (by simp; omega) (own_ge h)
/-- the call has handed back a slice of its own with the bytes l -/
def RetB (w : World) (l : List Nat) (e : Ending) (w' : World) : Prop :=
  ∃ v, e = .returned v ∧ w'.ownsRow w.heap.size 5 1 v l.length (l.map vu8) ∧ Below w.heap.size w w'
theorem info_u8 : (Tryd.prog.info? 5).map (fun i => (i.zero, i.size, i.bytes)) = some (some (.int .u8 0), 1, 1) := by kernel_rfl
theorem cell_new1 (w : World) (u : Value) (t : Nat) : ∀ j v, [u][j]? = some v → (w.alloc (.cells #[u] t)).cell? ((⟨w.heap.size, 0, none⟩ : Addr).add j) = some v := by
  intro j v h
  cases j with
  | zero => simp at h; subst h; exact (Blk.new w [u] t).cell rfl
  | succ j => simp at h
theorem or128 (z : Nat) : bits .or .u8 ((z : Int) % 256) 128 = ((z % 128 + 128 : Nat) : Int) := by
  have h : ∀ a : Fin 256, bits .or .u8 ((a.val : Nat) : Int) 128 = ((a.val % 128 + 128 : Nat) : Int) := by decide +kernel
  have := h ⟨z % 256, Nat.mod_lt _ (by decide)⟩
  simp only at this
  rw [show ((z : Int) % 256) = ((z % 256 : Nat) : Int) by simp, this]
  omega
theorem wrap_u64 (n : Int) : IntKind.u64.wrap n = n % 18446744073709551616 := by simp [IntKind.wrap, IntKind.bits, IntKind.signed]
theorem wrap_u64_id (n : Int) (h0 : 0 ≤ n) (h : n < 2 ^ 64) : IntKind.u64.wrap n = n := by
  rw [wrap_u64]; omega
theorem xor64 (a b : Nat) (ha : a < 18446744073709551616) (hb : b < 18446744073709551616) : bits .xor .u64 a b = ((a ^^^ b : Nat) : Int) := by
  have ha' : a % 2 ^ IntKind.u64.bits = a := Nat.mod_eq_of_lt ha
  have hb' : b % 2 ^ IntKind.u64.bits = b := Nat.mod_eq_of_lt hb
  simp only [bits, BitVec.ofInt_natCast, BitVec.toNat_xor, BitVec.toNat_ofNat, ha', hb']
  exact wrap_u64_id _ (Int.natCast_nonneg _) (by exact_mod_cast Nat.xor_lt_two_pow (n := 64) ha hb)
theorem not64 (a : Nat) (ha : a < 18446744073709551616) : a ^^^ 18446744073709551615 = 18446744073709551615 - a := by
  have := BitVec.toNat_not (x := BitVec.ofNat 64 a)
  have h2 : ~~~ (BitVec.ofNat 64 a) = BitVec.ofNat 64 a ^^^ BitVec.allOnes 64 := by simp [BitVec.not_def, BitVec.xor_comm]
  rw [h2, BitVec.toNat_xor, BitVec.toNat_allOnes, BitVec.toNat_ofNat, Nat.mod_eq_of_lt (by simpa using ha)] at this
  simpa using this
theorem zig_walk (n : Int) (h0 : -9223372036854775808 ≤ n) (h1 : n < 9223372036854775808) :
    bits .xor .u64 (IntKind.u64.wrap (IntKind.u64.wrap n * 2)) (IntKind.u64.wrap (n / 9223372036854775808)) = ((Wire.zig n : Nat) : Int) := by
  rw [wrap_u64 n, wrap_u64, wrap_u64, Wire.zig_eq]
  by_cases h : 0 ≤ n
  · have e1 : (n % 18446744073709551616 * 2) % 18446744073709551616 = (((2 * n).toNat : Nat) : Int) := by omega
    have e2 : (n / 9223372036854775808) % 18446744073709551616 = ((0 : Nat) : Int) := by omega
    rw [e1, e2, xor64 _ _ (by omega) (by decide), if_pos h, Nat.xor_zero]
  · have e1 : (n % 18446744073709551616 * 2) % 18446744073709551616 = (((2 * n + 18446744073709551616).toNat : Nat) : Int) := by omega
    have e2 : (n / 9223372036854775808) % 18446744073709551616 = ((18446744073709551615 : Nat) : Int) := by omega
    rw [e1, e2, xor64 _ _ (by omega) (by decide), if_neg h, not64 _ (by omega)]
    omega
set_option maxRecDepth 100000 in
set_option maxHeartbeats 1000000 in
theorem int_any (n : Int) (w : World) (h0 : -9223372036854775808 ≤ n) (h1 : n < 9223372036854775808) :
    Calls Tryd.prog 62 #[.int .i64 n] w (RetB w (Wire.int n)) := by
  go_enter Tryd.func62, Tryd.ntmps62
  go_wp2_with fail
  have hzg := zig_walk n h0 h1
  have hz0 := Wire.zig_lt h0 h1
  rw [hzg]
  clear hzg
  generalize hzd : Wire.zig n = z0 at *
  replace hzd := hide hzd
  have hlen := Wire.vint_len10 hz0
  obtain ⟨i0, hi, hi0, hi1, hi2⟩ := info_parts info_u8
  replace hz0 := hide hz0
  clear h0 h1
  replace hi := hide hi
  replace hi0 := hide hi0
  replace hi1 := hide hi1
  replace hi2 := hide hi2
  go_loopw [3, 4] (fun a b wr => ∃ (z : Nat) (pre : List Nat) (v : Value), z ≤ z0 ∧ Hid (Wire.vint z0 = pre ++ Wire.vint z) ∧ a = .int .u64 z ∧ b = v ∧ wr.ownsRow w.heap.size 5 1 v pre.length (pre.map vu8) ∧ Below w.heap.size w wr) (fun a _ _ => (intOf a).toNat)
  case atStart => exact ⟨z0, [], _, Nat.le_refl _, hide rfl, rfl, rfl, ⟨rfl, .inl ⟨rfl, rfl⟩⟩, Below.refl _ _⟩
  case round =>
    obtain ⟨z, pre, v, hz, hv, rfl, rfl, hown, hb⟩ := hrel
    have hsz := hb.size
    by_cases hlt : 127 < z
    · have hbig := Wire.vint_big (z := z) (by omega)
      rw [hbig] at hv
      have hpl : pre.length + 1 ≤ 10 := by
        have := congrArg List.length hv.out; simp at this; omega
      have ho := or128 z
      have hbase : w.heap.size ≤ wr.heap.size := hsz
      clear hbig
      go_wp2_with (at_builtin; refine wpList_append_own _ rfl (.tmp 16) (.tmp 20) 89 rfl w.heap.size 5 i0 (.int .u8 0) 1 1 Tryd.underlying89 hi.out hi0.out hi1.out hi2.out rfl (by decide) _ _ _ rfl (hown.alloc _) ⟨wr.heap.size, 0, none⟩ 1 1 [.int .u8 ((z % 128 + 128 : Nat) : Int)] rfl rfl ?c1 ?c2 ?c3 ?c4 ?c5 ?_; (case c1 => exact cell_new1 _ _ _); (case c2 => simp [Value.oneCell']); (case c3 => simp only [maxLen]; omega); (case c4 => omega); (case c5 => simp; omega); intro v1 w1 hown1 hg1 _; have hb1 := own_grown hb hsz hown hg1; clear hown hb hg1)
      go_roundw
      case rel =>
        refine ⟨z / 128, pre ++ [z % 128 + 128], v1, by omega, ?_, by simp, rfl, ?_, hb1⟩
        · have := hv.out
          exact hide (by rw [this, List.append_assoc]; rfl)
        · simpa [vu8] using hown1
      case measure => simp [intOf]; omega
    · have hsm := Wire.vint_small (z := z) (by omega)
      rw [hsm] at hv
      have hpl : pre.length + 1 ≤ 10 := by
        have := congrArg List.length hv.out; simp at this; omega
      have ho : (z : Int) % 256 = (z : Int) := by omega
      have hbase : w.heap.size ≤ wr.heap.size := hsz
      clear hsm
      go_wp2_with (at_builtin; refine wpList_append_own _ rfl (.tmp 22) (.tmp 25) 89 rfl w.heap.size 5 i0 (.int .u8 0) 1 1 Tryd.underlying89 hi.out hi0.out hi1.out hi2.out rfl (by decide) _ _ _ rfl (hown.alloc _) ⟨wr.heap.size, 0, none⟩ 1 1 [.int .u8 (z : Int)] rfl rfl ?c1 ?c2 ?c3 ?c4 ?c5 ?_; (case c1 => exact cell_new1 _ _ _); (case c2 => simp [Value.oneCell']); (case c3 => simp only [maxLen]; omega); (case c4 => omega); (case c5 => simp; omega); intro v1 w1 hown1 hg1 _; have hb1 := own_grown hb hsz hown hg1; clear hown hb hg1)
      go_ret
      refine ⟨v1, rfl, ?_, hb1⟩
      rw [Wire.int_eq, hzd.out, hv.out]
      simpa [vu8] using hown1
set_option maxRecDepth 100000 in
set_option maxHeartbeats 1000000 in
theorem bytes_any (s : ByteArray) (w : World) (hs : s.size ≤ 140737488351232) : Calls Tryd.prog 54 #[.string s] w (RetB w (Wire.bytes (Bs s))) := by
  have hil := Wire.int_len (n := (s.size : Int)) (by omega) (by omega)
  obtain ⟨i0, hi, hi0, hi1, hi2⟩ := info_parts info_u8
  replace hi := hide hi
  replace hi0 := hide hi0
  replace hi1 := hide hi1
  replace hi2 := hide hi2
  go_enter Tryd.func54, Tryd.ntmps54
  go_wp2_with (first | (go_at_call 62; refine (int_any _ _ (by omega) (by omega)).mono ?_; rintro e w1 ⟨v, rfl, hown, hb⟩; have hsz := hb.size) | (at_builtin; refine Lib.wpList_append_own_string _ rfl (.tmp 5) (.tmp 6) 89 9 rfl w.heap.size 5 i0 Tryd.underlying89 Tryd.underlying9 hi.out hi0.out hi1.out hi2.out _ _ _ rfl hown s rfl ?c1 ?c2 ?c3 ?_; (case c1 => simp only [maxLen]; omega); (case c2 => omega); (case c3 => exact hsz); intro v1 w2 hown1 hg1 _; have hb1 := hb.grown hg1 hsz (own_ge hown); clear hown hb hg1))
  go_ret
  refine ⟨v1, rfl, ?_, hb1⟩
  have e1 : Wire.bytes (Bs s) = Wire.int (s.size : Int) ++ Bs s := by unfold Wire.bytes; rw [Bs_length]
  rw [e1, List.length_append, List.map_append, Bs_length]
  have e2 : Lib.strCells s = (Bs s).map vu8 := by simp only [Lib.strCells, Bs, List.map_map]; rfl
  rw [← e2]; exact hown1
end Go.Proofs.YtbccfgeepdmegaaDoor
