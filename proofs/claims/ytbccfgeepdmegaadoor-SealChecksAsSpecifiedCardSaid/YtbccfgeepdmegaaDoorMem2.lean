/- More memory words over any program: arrays that are filled, byte rows turned into strings. -/
import Derived.Test.YtbccfgeepdmegaaDoorMem
import Derived.Laws.BytesArg
import Derived.OwnWalk
set_option linter.unusedVariables false
set_option linter.unusedSimpArgs false
set_option linter.unnecessarySimpa false
namespace Go.Proofs.YtbccfgeepdmegaaDoor
open Go Go.RowKit
/-- the string of some bytes -/
def Str (l : List Nat) : ByteArray := ⟨(l.map UInt8.ofNat).toArray⟩
theorem Bs_Str (l : List Nat) (h : ∀ x ∈ l, x < 256) : Bs (Str l) = l := by
  unfold Bs Str
  simp only [List.map_map]
  induction l with
  | nil => rfl
  | cons a l ih =>
    simp only [List.map_cons, Function.comp]
    rw [ih (fun x hx => h x (by simp [hx]))]
    have := h a (by simp)
    simp [UInt8.toNat_ofNat', Nat.mod_eq_of_lt this]
theorem Str_size (l : List Nat) : (Str l).size = l.length := by simp [Str, ByteArray.size]
namespace Mem
theorem own_ge {w : World} {base e size n : Nat} {v : Value} {xs : List Value} (h : w.ownsRow base e size v n xs) : ∀ k, v.ownBlock = some k → base ≤ k := by
  intro k hk
  rcases h.2 with ⟨rfl, _⟩ | ⟨g, cap, cur, rfl, hg, _⟩
  · simp [Value.ownBlock] at hk
  · simp only [Value.ownBlock, Option.some.injEq] at hk; omega
theorem own_grown {w0 w w' : World} {base e size n : Nat} {o : Obj} {v : Value} {xs : List Value} (hb : Below base w0 w) (hs : base ≤ w.heap.size) (h : w.ownsRow base e size v n xs) (hg : (w.alloc o).grownBy w' v.ownBlock) : Below base w0 w' :=
  (hb.alloc hs o).grown hg (by simp; omega) (own_ge h)
theorem own_grown' {w0 w w' : World} {B base e size n : Nat} {o : Obj} {v : Value} {xs : List Value} (hb : Below B w0 w) (hs : B ≤ w.heap.size) (h : w.ownsRow base e size v n xs) (hg : (w.alloc o).grownBy w' v.ownBlock) (hB : B ≤ base) : Below B w0 w' :=
  (hb.alloc hs o).grown hg (by simp; omega) (fun k hk => Nat.le_trans hB (own_ge h k hk))
/-- a block below the owned row's base stays, behind an append -/
theorem own_blk {w w' : World} {base e size n b t : Nat} {cs : List Value} {o : Obj} {v : Value} {xs : List Value} (hk : Blk w b t cs) (h : w.ownsRow base e size v n xs) (hg : (w.alloc o).grownBy w' v.ownBlock) (hb : b < base) : Blk w' b t cs := by
  have h1 := hk.alloc o
  unfold Blk at h1 ⊢
  rw [hg.block b (Blk.lt (cs := cs) (t := t) h1) (fun e => by have := own_ge h b e.symm; omega)]
  exact h1
theorem blk_new2 (w : World) (o o2 : Obj) (cs : List Value) (t : Nat) : Blk (((w.alloc o).alloc o2).alloc (.cells cs.toArray t (0, 0))) (w.heap.size + 2) t cs := by
  rw [show w.heap.size + 2 = ((w.alloc o).alloc o2).heap.size by simp]
  exact Blk.new _ _ _
theorem cell_new1 (w : World) (u : Value) (t : Nat) : ∀ j v, [u][j]? = some v → (w.alloc (.cells #[u] t)).cell? ((⟨w.heap.size, 0, none⟩ : Addr).add j) = some v := by
  intro j v h
  cases j with
  | zero => simp at h; subst h; exact (Blk.new w [u] t).cell rfl
  | succ j => simp at h
/-- the block that a row owns holds at its head what the row holds -/
theorem own_at {w : World} {base e n : Nat} {v : Value} {xs : List Value} (h : w.ownsRow base e 1 v n xs) (hn : 0 < n) : ∃ g cap, v = .slice (some ⟨g, 0, none⟩) n cap ∧ n ≤ cap ∧ cap ≤ maxLen ∧ base ≤ g ∧ g < w.heap.size ∧ At w g 0 xs := by
  rcases h.2 with ⟨_, h0⟩ | ⟨g, cap, cur, rfl, hg, hh, hc, hm, hs, hx⟩
  · omega
  · refine ⟨g, cap, rfl, hc, hm, hg, Blk.lt (cs := cur.toList) (t := e) (by unfold Blk; simpa using hh), fun i u hi => ?_⟩
    rw [Nat.zero_add, cell_of_row w g i cur e (0, 0) hh]
    rw [← hx, List.getElem?_take] at hi
    split at hi
    · simpa using hi
    · cases hi
theorem conv_at {P : Program} {w : World} {src dst e b off cap : Nat} {l : List Nat} (hs : P.underlying src = some (.slice e)) (he : P.underlying e = some (.int .u8)) (hd : P.underlying dst = some .string)
    (hat : At w b off (l.map vu8)) : (convert src dst (.slice (some ⟨b, off, none⟩) l.length cap)).run P w = .ok (.string (Str l)) w := by
  rw [run_convert_bytes_string w src dst e _ _ _ hs he hd]
  have hl : (loadCells ⟨b, off, none⟩ l.length).run P w = .ok ((l.map Int.ofNat).map (Value.int .u8)).toArray w := by
    have := run_loadCells_list (P := P) w ⟨b, off, none⟩ (l.map vu8) (fun j v hv => by
      have hadd : (⟨b, off, none⟩ : Addr).add j = ⟨b, off + j, none⟩ := by unfold Addr.add; split <;> simp_all
      rw [hadd]; exact hat j v hv)
    rw [List.length_map] at this
    rw [this, List.map_map]; rfl
  rw [run_bytesToString w _ _ _ _ hl, foldl_push_bytes, List.map_map]
  simp [Str, ByteArray.empty, ByteArray.emptyWithCapacity]
  rfl
theorem conv_own {P : Program} {w : World} {src dst e base : Nat} {v : Value} {l : List Nat} (hs : P.underlying src = some (.slice e)) (he : P.underlying e = some (.int .u8)) (hd : P.underlying dst = some .string)
    (h : w.ownsRow base e 1 v l.length (l.map vu8)) (h0 : 0 < l.length) : (convert src dst v).run P w = .ok (.string (Str l)) w := by
  obtain ⟨g, cap, rfl, _, _, _, _, hat⟩ := own_at h h0
  exact conv_at hs he hd hat
/-- cells cs lie from A on (of an empty list nothing is said) -/
def Rd (w : World) (A : Option Addr) (cs : List Value) : Prop := 0 < cs.length → ∃ b off, A = some ⟨b, off, none⟩ ∧ At w b off cs
theorem Rd.below {w w' : World} {A : Option Addr} {cs : List Value} (h : Rd w A cs) (hb : Below w.heap.size w w') : Rd w' A cs := fun hn => by
  obtain ⟨b, off, e, hat⟩ := h hn
  exact ⟨b, off, e, hat.below hb⟩
theorem At.alloc {w : World} {b off : Nat} {cs : List Value} (h : At w b off cs) (o : Obj) : At (w.alloc o) b off cs := h.below ((Below.refl _ _).alloc (Nat.le_refl _) o)
theorem At.drew {w : World} {b off : Nat} {cs : List Value} (h : At w b off cs) : At w.drew b off cs := h
theorem Rd.alloc {w : World} {A : Option Addr} {cs : List Value} (h : Rd w A cs) (o : Obj) : Rd (w.alloc o) A cs := h.below ((Below.refl _ _).alloc (Nat.le_refl _) o)
theorem Rd.drew {w : World} {A : Option Addr} {cs : List Value} (h : Rd w A cs) : Rd w.drew A cs := h
theorem Rd.drewN {w : World} {A : Option Addr} {cs : List Value} (h : Rd w A cs) {n : Nat} : Rd (w.drewN n) A cs := h
theorem Rd.cell {w : World} {A : Option Addr} {cs : List Value} (h : Rd w A cs) {i : Nat} {v : Value} (hi : cs[i]? = some v) : ∃ b off, A = some ⟨b, off, none⟩ ∧ b < w.heap.size ∧ w.cell? ⟨b, off + i, none⟩ = some v := by
  obtain ⟨b, off, e, hat⟩ := h (by have := (List.getElem?_eq_some_iff.1 hi).1; omega)
  exact ⟨b, off, e, block_lt_of_cell (hat i v hi), hat i v hi⟩
theorem ext_alloc {w w' : World} (h : Below w.heap.size w w') (o : Obj) : Below w.heap.size w (w'.alloc o) := h.alloc h.size o
theorem ext_drew {w w' : World} (h : Below w.heap.size w w') : Below w.heap.size w w'.drew := h.drew
theorem ext_trans {w w' w2 : World} (h : Below w.heap.size w w') (k : Below w'.heap.size w' w2) : Below w.heap.size w w2 := h.trans (k.mono h.size)
theorem Blk.ext {w w' : World} {b t : Nat} {cs : List Value} (h : Blk w b t cs) (hb : Below w.heap.size w w') : Blk w' b t cs := h.below hb h.lt
/-- an array of n places of which the first i are laid -/
def fill (f : Nat → Value) (z : Value) (n i : Nat) : List Value := (List.range n).map (fun j => if j < i then f j else z)
theorem fill_zero (f : Nat → Value) (z : Value) (n : Nat) : fill f z n 0 = List.replicate n z := by
  unfold fill
  apply List.ext_getElem
  · simp
  · intro i h1 h2; simp
theorem fill_length (f : Nat → Value) (z : Value) (n i : Nat) : (fill f z n i).length = n := by simp [fill]
theorem fill_get (f : Nat → Value) (z : Value) (n i j : Nat) (h : j < n) : (fill f z n i)[j]? = some (if j < i then f j else z) := by
  unfold fill
  rw [List.getElem?_map, List.getElem?_range h]; rfl
theorem fill_set (f : Nat → Value) (z : Value) (n i : Nat) (h : i < n) : (fill f z n i).set i (f i) = fill f z n (i + 1) := by
  apply List.ext_getElem?
  intro j
  rw [List.getElem?_set]
  by_cases hj : j < n
  · rw [fill_get f z n (i + 1) j hj, fill_get f z n i j hj, fill_length]
    by_cases e : i = j
    · subst e; rw [if_pos rfl, if_pos h, if_pos (by omega)]
    · rw [if_neg e]
      by_cases h2 : j < i
      · rw [if_pos h2, if_pos (by omega)]
      · rw [if_neg h2, if_neg (by omega)]
  · rw [if_neg (by omega), List.getElem?_eq_none (by rw [fill_length]; omega), List.getElem?_eq_none (by rw [fill_length]; omega)]
theorem fill_full (f : Nat → Value) (z : Value) (n : Nat) : fill f z n n = (List.range n).map f := by
  unfold fill
  apply List.map_congr_left
  intro j hj
  rw [if_pos (List.mem_range.1 hj)]
end Mem
end Go.Proofs.YtbccfgeepdmegaaDoor
