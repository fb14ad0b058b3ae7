/- Walk: sanity, the examples that every statement computes first. -/
import Derived.Test.YtbccfgeepdmegaaDoorSan0
set_option linter.unusedVariables false
set_option linter.unusedSimpArgs false
set_option linter.unnecessarySimpa false
namespace Go.Proofs.YtbccfgeepdmegaaDoor
open Go Go.RowKit Mem San
attribute [local go_sem ↓] Go.wp_at_zero Go.wp_at_succ veil_lk veil_sk veil_lseal veil_sseal veil_ldig veil_sdig
/-- what lies there while the examples run: the key a in its box, the ring of it alone, the constants -/
structure Env (w W : World) (L : Option Addr) (cap : Nat) : Prop where
  box : Blk W w.heap.size 24 (kC kA)
  ks : Ks W L [kA]
  c1 : 1 ≤ cap
  c2 : cap ≤ 9223372036854775807
  c3 : L = none → cap = 0
  cs : At W 0 0 (Sha.K.map vu32)
  lt : Below w.heap.size w W
theorem Env.ext {w W W' : World} {L : Option Addr} {cap : Nat} (h : Env w W L cap) (hb : Below W.heap.size W W') : Env w W' L cap :=
  ⟨h.box.ext hb, h.ks.below hb, h.c1, h.c2, h.c3, h.cs.below hb, ext_trans h.lt hb⟩
theorem Env.alloc {w W : World} {L : Option Addr} {cap : Nat} (h : Env w W L cap) (o : Obj) : Env w (W.alloc o) L cap := h.ext ((Below.refl _ _).alloc (Nat.le_refl _) o)
variable {w W : World} {L : Option Addr} {cap : Nat}
theorem s1A : sorted [kA] := ring_sorted g1
theorem s_add2 (h : Env w W L cap) : Calls Tryd.prog 14 #[.slice L 1 cap, kV kA] W fun e w' => ∃ v, e = .returned (.tuple #[v, .int .i64 6]) ∧ Env w w' L cap := by
  have A := add_keys L cap [kA] kA W h.ks s1A okA (by simp) h.c1 h.c2 h.c3
  rw [a2.1, a2.2] at A
  exact A.mono fun e w' ⟨v, e1, _, hb⟩ => ⟨v, e1, h.ext hb⟩
theorem s_add3 (h : Env w W L cap) : Calls Tryd.prog 14 #[.slice L 1 cap, kV kB] W fun e w' => ∃ v, e = .returned (.tuple #[v, .int .i64 1]) ∧ Env w w' L cap := by
  have A := add_keys L cap [kA] kB W h.ks s1A okB (by simp) h.c1 h.c2 h.c3
  rw [a3.1, a3.2] at A
  exact A.mono fun e w' ⟨v, e1, _, hb⟩ => ⟨v, e1, h.ext hb⟩
theorem s_cur1 (h : Env w W L cap) : Calls Tryd.prog 16 #[.slice L 1 cap, .int .i64 5, .int .i64 99] W fun e w' => e = .returned (.tuple #[kV kA, .int .i64 0]) ∧ Below W.heap.size W w' := by
  have A := current_keys L cap [kA] 5 99 W h.ks g1 (by simp) h.c1 h.c2 (by omega)
  rw [c1] at A; exact A
theorem s_cur2 (h : Env w W L cap) : Calls Tryd.prog 16 #[.slice L 1 cap, .int .i64 5, .int .i64 100] W fun e w' => e = .returned (.tuple #[kV (key0 0 0), .int .i64 9]) ∧ Below W.heap.size W w' := by
  have A := current_keys L cap [kA] 5 100 W h.ks g1 (by simp) h.c1 h.c2 (by omega)
  rw [c2] at A; exact A
theorem s_cur3 (h : Env w W L cap) : Calls Tryd.prog 16 #[.slice L 1 cap, .int .i64 6, .int .i64 99] W fun e w' => e = .returned (.tuple #[kV (key0 0 0), .int .i64 5]) ∧ Below W.heap.size W w' := by
  have A := current_keys L cap [kA] 6 99 W h.ks g1 (by simp) h.c1 h.c2 (by omega)
  rw [c3] at A; exact A
theorem s_rot (h : Env w W L cap) : Calls Tryd.prog 29 #[.slice L 1 cap, .int .i64 5, .string ⟨#[116]⟩, .int .i64 50] W fun e w' => ∃ M cm, e = .returned (.tuple #[.slice M 2 cm, .int .i64 0]) ∧ Ks w' M [kA50, kC2] ∧ Below W.heap.size W w' := by
  have A := rotate_keys L cap [kA] 5 sT 50 W h.ks g1 (by simp) h.c1 h.c2 (by decide) (by omega)
  rw [r1.1, r1.2] at A
  exact A.mono fun e w' ⟨v, e1, ⟨M, cm, e2, hM, _⟩, hb⟩ => ⟨M, cm, by rw [e1, e2]; rfl, hM, hb⟩
theorem oks2 : oks [kA50, kC2] := fun k hk => by
  simp only [List.mem_cons, List.not_mem_nil, or_false] at hk
  rcases hk with rfl | rfl
  · exact ⟨by decide, by decide, by decide, by decide, by decide⟩
  · exact ⟨by decide, by decide, by decide, by decide, by decide⟩
theorem s_ring {M : Option Addr} {cm : Nat} (hM : Ks W M [kA50, kC2]) : Calls Tryd.prog 10 #[.slice M 2 cm] W fun e w' => e = .returned (.bool true) ∧ Below W.heap.size W w' := by
  have A := ring_any M cm [kA50, kC2] W hM oks2 (by simp)
  rw [g2] at A; exact A
theorem s_make (h : Env w W L cap) {g c : Nat} (hg : Blk W g 9 [.string ⟨#[120]⟩]) : Calls Tryd.prog 22 #[kV kA, .int .i64 7, .slice (some ⟨g, 0, none⟩) 1 c] W fun e w' => e = .returned (.agg ((mk sS 7 [sX]).map vu8).toArray) ∧ Below W.heap.size W w' :=
  make_any kA 7 (some ⟨g, 0, none⟩) c [sX] W (rd_blk hg) (fun p hp => by rw [List.mem_singleton] at hp; subst hp; show 1 ≤ 1000000; omega) (by decide) (by simp) h.cs
theorem s_check (h : Env w W L cap) {g c : Nat} (x : ByteArray) (hx : x.size ≤ 1000) (hg : Blk W g 9 [.string x]) (d r : Int) (hd : 0 ≤ d) (hr : chkE [kA] 5 1 7 [x] (mk sS 7 [sX]) d = r) : Calls Tryd.prog 24 #[.slice L 1 cap, .int .i64 5, .int .i64 1, .int .i64 7, .slice (some ⟨g, 0, none⟩) 1 c, .agg ((mk sS 7 [sX]).map vu8).toArray, .int .i64 d] W fun e w' => e = .returned (.int .i64 r) ∧ Below W.heap.size W w' := by
  have A := check_any L cap [kA] 5 1 7 (some ⟨g, 0, none⟩) c [x] (mk sS 7 [sX]) (mk_16 _ _ _) d W h.ks g1 (by simp) (by omega) (rd_blk hg) (fun p hp => by rw [List.mem_singleton] at hp; subst hp; omega) (by simp) h.cs
  rw [hr] at A; exact A
theorem s_blind (h : Env w W L cap) {g c : Nat} (hg : Blk W g 9 [.string ⟨#[120]⟩]) : Calls Tryd.prog 27 #[.string ⟨#[110]⟩, .slice (some ⟨g, 0, none⟩) 1 c] W fun e w' => e = .returned (.agg ((bl sN [sX]).map vu8).toArray) ∧ Below W.heap.size W w' :=
  blind_any sN (some ⟨g, 0, none⟩) c [sX] W (rd_blk hg) (fun p hp => by rw [List.mem_singleton] at hp; subst hp; show 1 ≤ 1000000; omega) (by decide) (by simp) h.cs
theorem s_opens (h : Env w W L cap) {g c : Nat} (n : ByteArray) (hn : n.size ≤ 1000) (hg : Blk W g 9 [.string ⟨#[120]⟩]) (r : Bool) (hr : decide (bl n [sX] = bl sN [sX]) = r) : Calls Tryd.prog 28 #[.agg ((bl sN [sX]).map vu8).toArray, .string n, .slice (some ⟨g, 0, none⟩) 1 c] W fun e w' => e = .returned (.bool r) ∧ Below W.heap.size W w' := by
  have A := opens_any (bl sN [sX]) (bl_16 _ _) n (some ⟨g, 0, none⟩) c [sX] W (rd_blk hg) (fun p hp => by rw [List.mem_singleton] at hp; subst hp; show 1 ≤ 1000000; omega) (by omega) (by simp) h.cs
  rw [hr] at A; exact A
end Go.Proofs.YtbccfgeepdmegaaDoor
