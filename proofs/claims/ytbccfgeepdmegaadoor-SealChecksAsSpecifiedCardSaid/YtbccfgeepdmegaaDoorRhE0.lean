/- Plain and memory words for the walk of the reference's Sum. -/
import Derived.Test.YtbccfgeepdmegaaDoorRhP
import Derived.Test.YtbccfgeepdmegaaDoorHashB
import Derived.Test.YtbccfgeepdmegaaDoorRhA
set_option linter.unusedVariables false
set_option linter.unusedSimpArgs false
set_option linter.unnecessarySimpa false
namespace Go.Proofs.YtbccfgeepdmegaaDoor
open Go Go.RowKit Mem
namespace Mem
theorem At.set_ne {w : World} {b b' off : Nat} {cs : List Value} (h : At w b off cs) (hne : b ≠ b') (i : Nat) (v : Value) : At (w.setCell ⟨b', i, none⟩ v) b off cs := fun j u hj => by
  have e := h j u hj
  unfold World.cell? at e ⊢
  rw [heap_setCell_other _ _ _ _ hne]; exact e
end Mem
theorem rch_walk (E F G : Nat) (hE : E < 4294967296) (hF : F < 4294967296) (hG : G < 4294967296) :
    bits .xor .u32 (bits .and .u32 (E : Int) (F : Int)) (bits .and .u32 (bits .xor .u32 (E : Int) 4294967295) (G : Int)) = ((Sha.ch E F G : Nat) : Int) := by
  have h := ch_walk E F G hE hF hG
  have hmax : IntKind.u32.max = ((4294967295 : Nat) : Int) := by decide
  have h2 : bits .xor .u32 (E : Int) 4294967295 = bits .xor .u32 IntKind.u32.max (E : Int) := by
    rw [hmax, show (4294967295 : Int) = ((4294967295 : Nat) : Int) from rfl, xor32 _ _ hE (by decide), xor32 _ _ (by decide) hE, Nat.xor_comm]
  rw [h2]; exact h
theorem rmix_walk (x i j k : Nat) (hx : x < 4294967296) :
    bits .xor .u32 (bits .xor .u32 (Sha.rotr x i : Int) (Sha.rotr x j : Int)) (Sha.rotr x k : Int) = ((Sha.mix x i j k : Nat) : Int) := by
  rw [xor32 _ _ (Sha.rotr_lt _ _ hx) (Sha.rotr_lt _ _ hx), xor32 _ _ (Sha.xor_lt (Sha.rotr_lt _ _ hx) (Sha.rotr_lt _ _ hx)) (Sha.rotr_lt _ _ hx), Sha.mix_eq]
/-- the state of which the first k words have the others added -/
def upS (s v : List Nat) (k : Nat) : List Value := (List.range 8).map (fun j => vu32 (if j < k then Sha.add32 (s.getD j 0) (v.getD j 0) else s.getD j 0))
theorem upS_get (s v : List Nat) (k j : Nat) (h : j < 8) : (upS s v k)[j]? = some (vu32 (if j < k then Sha.add32 (s.getD j 0) (v.getD j 0) else s.getD j 0)) := by
  unfold upS; rw [List.getElem?_map, List.getElem?_range h]; rfl
theorem upS_length (s v : List Nat) (k : Nat) : (upS s v k).length = 8 := by simp [upS]
theorem upS_set (s v : List Nat) (k : Nat) (h : k < 8) : (upS s v k).set k (vu32 (Sha.add32 (s.getD k 0) (v.getD k 0))) = upS s v (k + 1) := by
  apply List.ext_getElem?
  intro j
  rw [List.getElem?_set]
  by_cases hj : j < 8
  · rw [upS_get s v (k + 1) j hj, upS_get s v k j hj, upS_length]
    by_cases e : k = j
    · subst e; rw [if_pos rfl, if_pos h, if_pos (by omega)]
    · rw [if_neg e]
      by_cases h2 : j < k
      · rw [if_pos h2, if_pos (by omega)]
      · rw [if_neg h2, if_neg (by omega)]
  · rw [if_neg (by omega), List.getElem?_eq_none (by rw [upS_length]; omega), List.getElem?_eq_none (by rw [upS_length]; omega)]
theorem upS_zero (a b c d e f g h : Nat) (v : List Nat) : upS [a, b, c, d, e, f, g, h] v 0 = [.int .u32 a, .int .u32 b, .int .u32 c, .int .u32 d, .int .u32 e, .int .u32 f, .int .u32 g, .int .u32 h] := rfl
theorem upS_full (s v : Sha.S8) : upS s.list v.list 8 = (Sha.addS s v).list.map vu32 := by
  obtain ⟨a, b, c, d, e, f, g, h⟩ := s
  obtain ⟨A, B, C, D, E, F, G, H⟩ := v
  rw [Sha.addS_add]; rfl
theorem s8_get (s : Sha.S8) (k : Nat) (h : k < 8) : (s.list.map vu32)[k]? = some (vu32 (s.list.getD k 0)) := by
  rw [List.getElem?_map, List.getD_eq_getElem?_getD, List.getElem?_eq_getElem (by simpa [Sha.S8.list] using h)]; rfl
theorem rfin (m : List Nat) (hm : ∀ x ∈ m, x < 256) (b : Nat) (hb : 64 * b = (m ++ Sha.pad m.length).length) : Sha.outB (Sha.sAt (m ++ Sha.pad m.length) b) = Sha.fin (Sha.feed Sha.st0 m) := by
  rw [Sha.sAt_all _ _ hb, Sha.fin_eq, Sha.feed_n, Sha.feed_append]
  rw [show Sha.st0.n + m.length = m.length by rw [show Sha.st0.n = 0 from rfl]; omega]
theorem pad_blocks (m : List Nat) : ∃ b, (m ++ Sha.pad m.length).length = 64 * b := by
  have h := (Sha.padz_iff m.length _ (Nat.le_refl _)).2 rfl
  refine ⟨(m.length + Sha.padz m.length + 9) / 64, ?_⟩
  rw [List.length_append, Sha.pad_length]
  omega
theorem pad_all (m : List Nat) (hm : ∀ x ∈ m, x < 256) : ∀ x ∈ m ++ Sha.pad m.length, x < 256 := by
  intro x hx
  rcases List.mem_append.1 hx with h | h
  · exact hm x h
  · exact Sha.pad_lt _ x h
theorem far8 {w : World} {b b' t : Nat} {cs : List Value} (h : Blk w b t cs) (hne : b ≠ b') {v0 v1 v2 v3 v4 v5 v6 v7 : Value} : Blk ((((((((w.setCell ⟨b', 0, none⟩ v0).setCell ⟨b', 1, none⟩ v1).setCell ⟨b', 2, none⟩ v2).setCell ⟨b', 3, none⟩ v3).setCell ⟨b', 4, none⟩ v4).setCell ⟨b', 5, none⟩ v5).setCell ⟨b', 6, none⟩ v6).setCell ⟨b', 7, none⟩ v7) b t cs :=
  (((far4 h hne).set_ne hne 4 _).set_ne hne 5 _).set_ne hne 6 _ |>.set_ne hne 7 _
theorem below8 {a w : World} {B b' : Nat} (h : Below B a w) (hB : B ≤ b') {v0 v1 v2 v3 v4 v5 v6 v7 : Value} : Below B a ((((((((w.setCell ⟨b', 0, none⟩ v0).setCell ⟨b', 1, none⟩ v1).setCell ⟨b', 2, none⟩ v2).setCell ⟨b', 3, none⟩ v3).setCell ⟨b', 4, none⟩ v4).setCell ⟨b', 5, none⟩ v5).setCell ⟨b', 6, none⟩ v6).setCell ⟨b', 7, none⟩ v7) :=
  ((((below4 h hB).setCell (p := ⟨b', 4, none⟩) hB _).setCell (p := ⟨b', 5, none⟩) hB _).setCell (p := ⟨b', 6, none⟩) hB _).setCell (p := ⟨b', 7, none⟩) hB _
theorem t1_acc (H E F G k w : Nat) (A B C D : Nat) : ((H : Int) + (Sha.mix E 6 11 25 : Int) + (Sha.ch E F G : Int) + (k : Int) + (w : Int)) % 4294967296 = ((Sha.t1 ⟨A, B, C, D, E, F, G, H⟩ k w : Nat) : Int) := t1_walk A B C D E F G H k w
theorem rrotr_draw2 (x n : Nat) (w : World) (c a : Nat) (hx : x < 4294967296) (h1 : 1 ≤ n) (hn : n ≤ 31) :
    Calls Tryd.prog 69 #[.int .u32 x, .int .i64 n] (w.drewN (c + a)) fun e w' => e = .returned (.int .u32 (Sha.rotr x n)) ∧ ∃ k, w' = w.drewN (c + k) :=
  (rrotr_q x n (w.drewN (c + a)) hx h1 hn).mono fun e w' ⟨h, k, hk⟩ => ⟨h, a + k, by rw [hk, World.drewN_drewN, Nat.add_assoc]⟩
attribute [irreducible] upS
end Go.Proofs.YtbccfgeepdmegaaDoor
