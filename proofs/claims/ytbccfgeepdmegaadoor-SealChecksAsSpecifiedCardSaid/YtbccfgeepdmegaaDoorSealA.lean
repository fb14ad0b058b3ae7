/- Walks: isWithin, cmp.Compare, cmp.Or, order, Valid, counts; the reference's Valid, less, Counts. -/
import Derived.Test.YtbccfgeepdmegaaDoorMem2
import Derived.Test.YtbccfgeepdmegaaDoorSealD
import Derived.Test.YtbccfgeepdmegaaDoorVeil
import Derived.Test.YtbccfgeepdmegaaDoorProg
import Derived.WalkSpells
import Derived.RegionTactic
import Derived.Deep.RegionHeld3
import Derived.Deep.QuietTactic
import Derived.BigQuiet
import Derived.Outline
import Derived.StillTailTactics
import Derived.LoopN
set_option linter.unusedVariables false
set_option linter.unusedSimpArgs false
set_option linter.unnecessarySimpa false
namespace Go.Proofs.YtbccfgeepdmegaaDoor
open Go Go.RowKit Mem
theorem cell_al {w : World} {p : Addr} {v : Value} (h : w.cell? p = some v) (o : Obj) : (w.alloc o).cell? p = some v := ((Below.refl w.heap.size w).alloc (Nat.le_refl _) o).cell (block_lt_of_cell h) ▸ h
theorem cell_ad {w : World} {p : Addr} {v : Value} {o : Obj} (h : w.cell? p = some v) : (w.alloc o).drew.cell? p = some v := cell_al h o
/-- a key's cells, and its value -/
def kC (k : KeyD) : List Value := [.int .i64 k.party, .int .i64 k.serial, .string k.secret, .int .i64 k.fr, .int .i64 k.to]
def kV (k : KeyD) : Value := .agg #[.int .i64 k.party, .int .i64 k.serial, .string k.secret, .int .i64 k.fr, .int .i64 k.to]
theorem kV_eq (k : KeyD) : kV k = .agg (kC k).toArray := rfl
def within (n lo hi : Int) : Bool := decide (lo ≤ n) && decide (n ≤ hi)
theorem within_iff (n lo hi : Int) : within n lo hi = true ↔ lo ≤ n ∧ n ≤ hi := by simp [within]
theorem within_t {n lo hi : Int} (h1 : lo ≤ n) (h2 : n ≤ hi) : within n lo hi = true := (within_iff _ _ _).2 ⟨h1, h2⟩
theorem within_f {n lo hi : Int} (h : ¬ (lo ≤ n ∧ n ≤ hi)) : within n lo hi = false := by rw [← Bool.not_eq_true, within_iff]; exact h
attribute [irreducible] within
theorem within_any (n lo hi : Int) (w : World) : Calls Tryd.prog 35 #[.int .i64 n, .int .i64 lo, .int .i64 hi] w fun e w' => e = .returned (.bool (within n lo hi)) ∧ w = w' := by
  by_cases h1 : lo ≤ n
  · by_cases h2 : n ≤ hi
    · rw [within_t h1 h2]
      go_enter Tryd.func35, Tryd.ntmps35
      go_wp2
      go_ret
      exact ⟨rfl, rfl⟩
    · rw [within_f (fun h => h2 h.2)]
      go_enter Tryd.func35, Tryd.ntmps35
      go_wp2
      go_ret
      exact ⟨rfl, rfl⟩
  · rw [within_f (fun h => h1 h.1)]
    go_enter Tryd.func35, Tryd.ntmps35
    go_wp2
    go_ret
    exact ⟨rfl, rfl⟩
theorem isnan_any (n : Int) (w : World) : Calls Tryd.prog 60 #[.int .i64 n] w fun e w' => e = .returned (.bool false) ∧ w = w' := by
  go_enter Tryd.func60, Tryd.ntmps60
  go_wp2
  go_ret
  exact ⟨rfl, rfl⟩
/-- cmp.Compare -/
def cmpI (a b : Int) : Int := if a < b then -1 else if b < a then 1 else 0
theorem cmpI_lt {a b : Int} (h : a < b) : cmpI a b = -1 := by simp [cmpI, h]
theorem cmpI_gt {a b : Int} (h : b < a) : cmpI a b = 1 := by unfold cmpI; rw [if_neg (by omega), if_pos h]
theorem cmpI_eq {a b : Int} (h : a = b) : cmpI a b = 0 := by subst h; simp [cmpI]
attribute [irreducible] cmpI
theorem cmp_any (a b : Int) (w : World) : Calls Tryd.prog 48 #[.int .i64 a, .int .i64 b] w fun e w' => e = .returned (.int .i64 (cmpI a b)) ∧ w = w' := by
  rcases Int.lt_trichotomy a b with h | h | h
  · rw [cmpI_lt h]
    go_enter Tryd.func48, Tryd.ntmps48
    go_wp2_with (go_at_call 60; refine (isnan_any _ _).mono ?_; rintro e w' ⟨rfl, rfl⟩)
    go_ret
    exact ⟨rfl, rfl⟩
  · rw [cmpI_eq h]
    subst h
    go_enter Tryd.func48, Tryd.ntmps48
    go_wp2_with (go_at_call 60; refine (isnan_any _ _).mono ?_; rintro e w' ⟨rfl, rfl⟩)
    go_ret
    exact ⟨rfl, rfl⟩
  · rw [cmpI_gt h]
    have h' : ¬ a < b := by omega
    go_enter Tryd.func48, Tryd.ntmps48
    go_wp2_with (go_at_call 60; refine (isnan_any _ _).mono ?_; rintro e w' ⟨rfl, rfl⟩)
    go_ret
    exact ⟨rfl, rfl⟩
/-- cmp.Or of two -/
def or2 (a b : Int) : Int := if a = 0 then b else a
theorem or_any (a b : Int) (g cap : Nat) (w : World) (h : Blk w g 3 [.int .i64 a, .int .i64 b]) : Calls Tryd.prog 47 #[.slice (some ⟨g, 0, none⟩) 2 cap] w fun e w' => e = .returned (.int .i64 (or2 a b)) ∧ w = w' := by
  have h0 := h.cell (i := 0) rfl
  have h1 := h.cell (i := 1) rfl
  clear h
  by_cases ha : a = 0
  · subst ha
    have e : or2 0 b = b := by simp [or2]
    rw [e]
    by_cases hb : b = 0
    · subst hb
      go_enter Tryd.func47, Tryd.ntmps47
      go_wp2_with fail
      refine wp_loop_rounds 3 ?_
      go_wp2_with (rw [rounds_succ])
      go_ret
      exact ⟨rfl, rfl⟩
    · have hb' : (b == 0) = false := by simpa using hb
      go_enter Tryd.func47, Tryd.ntmps47
      go_wp2_with fail
      refine wp_loop_rounds 3 ?_
      go_wp2_with (rw [rounds_succ])
      go_ret
      exact ⟨rfl, rfl⟩
  · have e : or2 a b = a := by simp [or2, ha]
    rw [e]
    have ha' : (a == 0) = false := by simpa using ha
    go_enter Tryd.func47, Tryd.ntmps47
    go_wp2_with fail
    refine wp_loop_rounds 1 ?_
    go_wp2_with (rw [rounds_succ])
    go_ret
    exact ⟨rfl, rfl⟩
attribute [local go_sem ↓] Go.wp_at_zero Go.wp_at_succ
/-- the order of keys -/
def ordI (a b : KeyD) : Int := or2 (cmpI a.party b.party) (cmpI a.serial b.serial)
theorem order_any (a b : KeyD) (w : World) : Calls Tryd.prog 33 #[kV a, kV b] w fun e w' => e = .returned (.int .i64 (ordI a b)) ∧ Below w.heap.size w w' := by
  unfold kV
  have hA := (Blk.new w (kC a) 24).alloc (.cells (kC b).toArray 24)
  have hB := blk_new1 w (.cells (kC a).toArray 24) (kC b) 24
  have hb := ((Below.refl w.heap.size w).alloc (Nat.le_refl _) (.cells (kC a).toArray 24)).alloc (by simp) (.cells (kC b).toArray 24)
  go_enter Tryd.func33, Tryd.ntmps33
  go_wp2_with fail
  have a0 := hA.cell (i := 0) rfl
  have a1 := hA.cell (i := 1) rfl
  have b0 := hB.cell (i := 0) rfl
  have b1 := hB.cell (i := 1) rfl
  obtain ⟨W, hW⟩ : ∃ W, W = (w.alloc (.cells #[.int .i64 a.party, .int .i64 a.serial, .string a.secret, .int .i64 a.fr, .int .i64 a.to] 24)).alloc (.cells #[.int .i64 b.party, .int .i64 b.serial, .string b.secret, .int .i64 b.fr, .int .i64 b.to] 24) := ⟨_, rfl⟩
  simp only [kC] at hA hB hb a0 a1 b0 b1
  clear hA hB
  rw [← hW] at a0 a1 b0 b1 hb ⊢
  clear hW
  go_region_held3 (fun w' => w'.cell? ⟨w.heap.size, 0, none⟩ = some (.int .i64 a.party) ∧ w'.cell? ⟨w.heap.size, 1, none⟩ = some (.int .i64 a.serial) ∧ w'.cell? ⟨w.heap.size + 1, 0, none⟩ = some (.int .i64 b.party) ∧ w'.cell? ⟨w.heap.size + 1, 1, none⟩ = some (.int .i64 b.serial)) (first | exact ⟨a0, a1, b0, b1⟩ | exact ⟨cell_ad a0, cell_ad a1, cell_ad b0, cell_ad b1⟩) (first
    | (go_at_call 48; refine (cmp_any _ _ _).mono ?_; rintro e w' ⟨rfl, rfl⟩)
    | (go_at_call 47; refine (or_any _ _ _ _ _ (Blk.drew (Blk.new _ _ _))).mono ?_; rintro e w' ⟨rfl, rfl⟩))
  go_wp2_with fail
  go_ret
  exact ⟨rfl, (hb.alloc hb.size _).drew⟩
theorem valid_any (k : KeyD) (w : World) (ok : k.ok) : Calls Tryd.prog 12 #[kV k] w fun e w' => e = .returned (.bool k.valid) ∧ Below w.heap.size w w' := by
  obtain ⟨hp, hs, hz, hf, ht⟩ := ok
  have hiff := hide k.valid_iff
  unfold kV
  have hb := (Below.refl w.heap.size w).alloc (Nat.le_refl _) (.cells #[.int .i64 k.party, .int .i64 k.serial, .string k.secret, .int .i64 k.fr, .int .i64 k.to] 24)
  have fin : ∀ v : Bool, (v = true ↔ k.valid = true) → Ending.returned (.bool v) = .returned (.bool k.valid) := fun v h => by rw [Bool.eq_iff_iff.2 h]
  by_cases h1 : 1 ≤ k.party ∧ k.party ≤ 2147483648
  · have e1 := within_t h1.1 h1.2
    by_cases h2 : 1 ≤ k.serial ∧ k.serial ≤ 2147483648
    · have e2 := within_t h2.1 h2.2
      by_cases h3 : (1 : Int) ≤ k.secret.size ∧ (k.secret.size : Int) ≤ 64
      · have e3 := within_t h3.1 h3.2
        by_cases h4 : 0 < k.to
        · by_cases h5 : 0 ≤ k.fr ∧ k.fr ≤ k.to - 1
          · have e5 := within_t h5.1 h5.2
            by_cases h6 : k.to ≤ 1048577
            · go_enter Tryd.func12, Tryd.ntmps12
              go_wp2_with (go_at_call 35; refine (within_any _ _ _ _).mono ?_; rintro e w' ⟨rfl, rfl⟩)
              go_ret
              exact ⟨fin _ (by rw [hiff.out]; simp; omega), hb⟩
            · go_enter Tryd.func12, Tryd.ntmps12
              go_wp2_with (go_at_call 35; refine (within_any _ _ _ _).mono ?_; rintro e w' ⟨rfl, rfl⟩)
              go_ret
              exact ⟨fin _ (by rw [hiff.out]; simp; omega), hb⟩
          · have e5 := within_f h5
            go_enter Tryd.func12, Tryd.ntmps12
            go_wp2_with (go_at_call 35; refine (within_any _ _ _ _).mono ?_; rintro e w' ⟨rfl, rfl⟩)
            go_ret
            exact ⟨fin _ (by rw [hiff.out]; simp; omega), hb⟩
        · generalize hv : within k.fr 0 (IntKind.i64.wrap (k.to - 1)) = v5
          have h4' : decide (0 < k.to) = false := by simpa using h4
          go_enter Tryd.func12, Tryd.ntmps12
          cases v5
          all_goals
            go_wp2_with (go_at_call 35; refine (within_any _ _ _ _).mono ?_; rintro e w' ⟨rfl, rfl⟩)
            all_goals (go_ret; exact ⟨fin _ (by rw [hiff.out]; simp; omega), hb⟩)
      · have e3 := within_f h3
        go_enter Tryd.func12, Tryd.ntmps12
        go_wp2_with (go_at_call 35; refine (within_any _ _ _ _).mono ?_; rintro e w' ⟨rfl, rfl⟩)
        go_ret
        exact ⟨fin _ (by rw [hiff.out]; simp; omega), hb⟩
    · have e2 := within_f h2
      go_enter Tryd.func12, Tryd.ntmps12
      go_wp2_with (go_at_call 35; refine (within_any _ _ _ _).mono ?_; rintro e w' ⟨rfl, rfl⟩)
      go_ret
      exact ⟨fin _ (by rw [hiff.out]; simp; omega), hb⟩
  · have e1 := within_f h1
    go_enter Tryd.func12, Tryd.ntmps12
    go_wp2_with (go_at_call 35; refine (within_any _ _ _ _).mono ?_; rintro e w' ⟨rfl, rfl⟩)
    go_ret
    exact ⟨fin _ (by rw [hiff.out]; simp; omega), hb⟩
end Go.Proofs.YtbccfgeepdmegaaDoor
