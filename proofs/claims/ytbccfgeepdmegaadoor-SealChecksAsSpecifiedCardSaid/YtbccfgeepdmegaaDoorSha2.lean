/- Plain: the stream of the program's hash, byte by byte. No program, no memory. -/
import Derived.Test.YtbccfgeepdmegaaDoorSha
set_option linter.unusedVariables false
set_option linter.unusedSimpArgs false
set_option linter.unnecessarySimpa false
namespace Go.Proofs.YtbccfgeepdmegaaDoor
namespace Sha
structure St where
  s : S8
  blk : List Nat
  n : Nat
def St.ok (st : St) : Prop := st.s.ok ∧ st.blk.length = 64 ∧ ∀ x ∈ st.blk, x < 256
def feed1 (st : St) (c : Nat) : St :=
  if (st.n + 1) % 64 = 0 then ⟨compress st.s (st.blk.set (st.n % 64) c), st.blk.set (st.n % 64) c, st.n + 1⟩ else ⟨st.s, st.blk.set (st.n % 64) c, st.n + 1⟩
def feed (st : St) (l : List Nat) : St := l.foldl feed1 st
def st0 : St := ⟨init, List.replicate 64 0, 0⟩
theorem st0_ok : st0.ok := ⟨init_ok, by simp [st0], by simp [st0]⟩
theorem feed_nil (st : St) : feed st [] = st := rfl
theorem feed_cons (st : St) (c : Nat) (l : List Nat) : feed st (c :: l) = feed (feed1 st c) l := rfl
theorem feed_append (st : St) (a b : List Nat) : feed st (a ++ b) = feed (feed st a) b := List.foldl_append
theorem feed1_ok {st : St} (h : st.ok) {c : Nat} (hc : c < 256) : (feed1 st c).ok := by
  obtain ⟨h1, h2, h3⟩ := h
  have h4 : ∀ x ∈ st.blk.set (st.n % 64) c, x < 256 := fun x hx => by
    rcases List.mem_or_eq_of_mem_set hx with h | h
    · exact h3 x h
    · omega
  unfold feed1
  split
  · exact ⟨compress_ok _ _, by simpa using h2, h4⟩
  · exact ⟨h1, by simpa using h2, h4⟩
theorem feed_ok {l : List Nat} : ∀ {st : St}, st.ok → (∀ x ∈ l, x < 256) → (feed st l).ok := by
  induction l with
  | nil => intro st h _; exact h
  | cons c l ih => intro st h hl; exact ih (feed1_ok h (hl c (by simp))) (fun x hx => hl x (by simp [hx]))
theorem feed1_n (st : St) (c : Nat) : (feed1 st c).n = st.n + 1 := by unfold feed1; split <;> rfl
theorem feed_n (l : List Nat) : ∀ st : St, (feed st l).n = st.n + l.length := by
  induction l with
  | nil => intro st; rfl
  | cons c l ih => intro st; rw [feed_cons, ih, feed1_n]; simp; omega
/-- L with cs laid over from off on -/
def over (L : List Nat) (off : Nat) (cs : List Nat) : List Nat := L.take off ++ (cs ++ L.drop (off + cs.length))
theorem over_length (L : List Nat) (off : Nat) (cs : List Nat) (h : off + cs.length ≤ L.length) : (over L off cs).length = L.length := by
  simp [over]; omega
theorem over_lt {L cs : List Nat} {off : Nat} (h : ∀ x ∈ L, x < 256) (hc : ∀ x ∈ cs, x < 256) : ∀ x ∈ over L off cs, x < 256 := by
  intro x hx
  simp only [over, List.mem_append] at hx
  rcases hx with hx | hx | hx
  · exact h x (List.mem_of_mem_take hx)
  · exact hc x hx
  · exact h x (List.mem_of_mem_drop hx)
theorem over_cons (L : List Nat) (off : Nat) (c : Nat) (cs : List Nat) (h : off + (cs.length + 1) ≤ L.length) : over (L.set off c) (off + 1) cs = over L off (c :: cs) := by
  unfold over
  rw [List.take_set, List.drop_set_of_lt (by omega)]
  have e : (L.take (off + 1)).set off c = L.take off ++ [c] := by
    rw [List.take_succ_eq_append_getElem (by omega), List.set_append_right _ _ (by simp; omega)]
    simp [show min off L.length = off by omega]
  rw [e]
  simp [Nat.add_assoc, Nat.add_comm 1]
/-- A chunk that stays within the block. -/
theorem feed_chunk (cs : List Nat) : ∀ st : St, st.blk.length = 64 → st.n % 64 + cs.length ≤ 64 → 0 < cs.length →
    feed st cs = if st.n % 64 + cs.length = 64 then ⟨compress st.s (over st.blk (st.n % 64) cs), over st.blk (st.n % 64) cs, st.n + cs.length⟩ else ⟨st.s, over st.blk (st.n % 64) cs, st.n + cs.length⟩ := by
  induction cs with
  | nil => intro st _ _ h; simp at h
  | cons c cs ih =>
    intro st hl hle _
    simp only [List.length_cons] at hle
    have hlt : st.n % 64 < 64 := Nat.mod_lt _ (by decide)
    rw [feed_cons]
    by_cases h0 : cs = []
    · subst h0
      rw [feed_nil]
      unfold feed1
      have e : over st.blk (st.n % 64) [c] = st.blk.set (st.n % 64) c := by
        rw [← over_cons _ _ _ _ (by simp; omega)]
        simp [over]
      rw [e]
      by_cases h : (st.n + 1) % 64 = 0
      · rw [if_pos h, if_pos (by simp; omega)]; rfl
      · rw [if_neg h, if_neg (by simp; omega)]; rfl
    · have hpos : 0 < cs.length := List.length_pos_iff.mpr h0
      have hn : (st.n + 1) % 64 = st.n % 64 + 1 := by omega
      have hf : feed1 st c = ⟨st.s, st.blk.set (st.n % 64) c, st.n + 1⟩ := by unfold feed1; rw [if_neg (by omega)]
      rw [hf, ih _ (by simpa using hl) (by simp only [hn]; omega) hpos]
      simp only [hn]
      rw [over_cons _ _ _ _ (by omega), List.length_cons]
      by_cases h : st.n % 64 + 1 + cs.length = 64
      · rw [if_pos h, if_pos (by omega)]
        simp; omega
      · rw [if_neg h, if_neg (by omega)]
        simp; omega
def padz (n : Nat) : Nat := (119 - n % 64) % 64
def lenB (N : Nat) : List Nat := (List.range 8).map (fun i => (N >>> (56 - 8 * i)) % 256)
def pad (n : Nat) : List Nat := 128 :: (List.replicate (padz n) 0 ++ lenB (8 * n))
def outB (s : S8) : List Nat := (List.range 32).map (fun i => (s.list.getD (i / 4) 0 >>> (24 - 8 * (i % 4))) % 256)
def fin (st : St) : List Nat := outB (feed st (pad st.n)).s
theorem pad_eq (n : Nat) : pad n = 128 :: (List.replicate (padz n) 0 ++ lenB (8 * n)) := rfl
theorem padz_lt (n : Nat) : padz n < 64 := Nat.mod_lt _ (by decide)
theorem padz_iff (n j : Nat) (h : j ≤ padz n) : (n + (j + 1)) % 64 = 56 ↔ j = padz n := by
  unfold padz at *; omega
theorem lenB_length (N : Nat) : (lenB N).length = 8 := by simp [lenB]
theorem lenB_lt (N : Nat) : ∀ x ∈ lenB N, x < 256 := by
  intro x hx
  simp only [lenB, List.mem_map] at hx
  obtain ⟨i, _, rfl⟩ := hx
  exact Nat.mod_lt _ (by decide)
theorem lenB_take (N i : Nat) (h : i < 8) : (lenB N).take (i + 1) = (lenB N).take i ++ [(N >>> (56 - 8 * i)) % 256] := by
  rw [List.take_succ_eq_append_getElem (by rw [lenB_length]; exact h)]
  simp [lenB]
theorem pad_lt (n : Nat) : ∀ x ∈ pad n, x < 256 := by
  intro x hx
  rw [pad_eq] at hx
  rcases List.mem_cons.1 hx with rfl | hx
  · decide
  · rcases List.mem_append.1 hx with hx | hx
    · have := List.eq_of_mem_replicate hx; omega
    · exact lenB_lt _ x hx
theorem pad_length (n : Nat) : (pad n).length = 9 + padz n := by rw [pad_eq]; simp [lenB_length]; omega
theorem outB_length (s : S8) : (outB s).length = 32 := by simp [outB]
theorem outB_lt (s : S8) : ∀ x ∈ outB s, x < 256 := by
  intro x hx
  simp only [outB, List.mem_map] at hx
  obtain ⟨i, _, rfl⟩ := hx
  exact Nat.mod_lt _ (by decide)
theorem outB_eq (s : S8) : outB s = (List.range 32).map (fun i => (s.list.getD (i / 4) 0 >>> (24 - 8 * (i % 4))) % 256) := rfl
theorem fin_eq (st : St) : fin st = outB (feed st (pad st.n)).s := rfl
theorem fin_length (st : St) : (fin st).length = 32 := by rw [fin_eq, outB_length]
theorem fin_lt (st : St) : ∀ x ∈ fin st, x < 256 := by rw [fin_eq]; exact outB_lt _
attribute [irreducible] pad lenB outB fin feed padz
end Sha
end Go.Proofs.YtbccfgeepdmegaaDoor
