/- Walks: counts; the reference's Valid, less, Counts; the search for a key: place$1, BinarySearchFunc, place, Find. -/
import Derived.Test.YtbccfgeepdmegaaDoorSealA
set_option linter.unusedVariables false
set_option linter.unusedSimpArgs false
set_option linter.unnecessarySimpa false
namespace Go.Proofs.YtbccfgeepdmegaaDoor
open Go Go.RowKit Mem
theorem retb {a b : Bool} (h : a = true ↔ b = true) : Ending.returned (.bool a) = .returned (.bool b) := by rw [Bool.eq_iff_iff.2 h]
theorem counts_any (k : KeyD) (day : Int) (w : World) (hd : -9223372036854775808 ≤ day) (hv : 0 < k.to ∧ k.to ≤ 1048577) : Calls Tryd.prog 39 #[kV k, .int .i64 day] w fun e w' => e = .returned (.bool (k.counts day)) ∧ Below w.heap.size w w' := by
  have e : within day k.fr (k.to - 1) = k.counts day := by rw [Bool.eq_iff_iff, within_iff, KeyD.counts_iff]; omega
  rw [← e]
  clear e
  have hb := (Below.refl w.heap.size w).alloc (Nat.le_refl _) (.cells #[.int .i64 k.party, .int .i64 k.serial, .string k.secret, .int .i64 k.fr, .int .i64 k.to] 24)
  obtain ⟨h1, h2⟩ := hv
  unfold kV
  go_enter Tryd.func39, Tryd.ntmps39
  go_wp2_with (go_at_call 35; refine (within_any _ _ _ _).mono ?_; rintro e w' ⟨rfl, rfl⟩)
  go_ret
  exact ⟨rfl, hb⟩
theorem rcounts_any (k : KeyD) (day : Int) (w : World) : Calls Tryd.prog 41 #[kV k, .int .i64 day] w fun e w' => e = .returned (.bool (k.counts day)) ∧ Below w.heap.size w w' := by
  have hiff := hide (k.counts_iff day)
  have hb := (Below.refl w.heap.size w).alloc (Nat.le_refl _) (.cells #[.int .i64 k.party, .int .i64 k.serial, .string k.secret, .int .i64 k.fr, .int .i64 k.to] 24)
  unfold kV
  by_cases h1 : k.fr ≤ day <;> by_cases h2 : day < k.to
  all_goals
    go_enter Tryd.func41, Tryd.ntmps41
    go_wp2_with fail
    go_ret
    exact ⟨retb (by rw [hiff.out]; simp; omega), hb⟩
theorem rless_any (a b : KeyD) (w : World) : Calls Tryd.prog 34 #[kV a, kV b] w fun e w' => e = .returned (.bool (a.lt b)) ∧ Below w.heap.size w w' := by
  have hiff := hide (a.lt_iff b)
  have hb := ((Below.refl w.heap.size w).alloc (Nat.le_refl _) (.cells #[.int .i64 a.party, .int .i64 a.serial, .string a.secret, .int .i64 a.fr, .int .i64 a.to] 24)).alloc (by simp) (.cells #[.int .i64 b.party, .int .i64 b.serial, .string b.secret, .int .i64 b.fr, .int .i64 b.to] 24)
  unfold kV
  rcases Int.lt_trichotomy a.party b.party with h1 | h1 | h1
  · go_enter Tryd.func34, Tryd.ntmps34
    go_wp2_with fail
    go_ret
    exact ⟨retb (by rw [hiff.out]; simp; omega), hb⟩
  · have h1a : ¬ a.party < b.party := by omega
    have h1' : (a.party == b.party) = true := by simpa using h1
    replace h1 := hide h1
    by_cases h2 : a.serial < b.serial
    all_goals
      go_enter Tryd.func34, Tryd.ntmps34
      go_wp2_with fail
      go_ret
      exact ⟨retb (by rw [hiff.out]; have := h1.out; simp; omega), hb⟩
  · have h1' : (a.party == b.party) = false := by simp; omega
    have h2 : ¬ a.party < b.party := by omega
    go_enter Tryd.func34, Tryd.ntmps34
    go_wp2_with fail
    go_ret
    exact ⟨retb (by rw [hiff.out]; simp; omega), hb⟩
set_option maxHeartbeats 1000000 in
theorem rvalid_any (k : KeyD) (w : World) : Calls Tryd.prog 13 #[kV k] w fun e w' => e = .returned (.bool k.valid) ∧ Below w.heap.size w w' := by
  have hiff := hide k.valid_iff
  have hb := (Below.refl w.heap.size w).alloc (Nat.le_refl _) (.cells #[.int .i64 k.party, .int .i64 k.serial, .string k.secret, .int .i64 k.fr, .int .i64 k.to] 24)
  unfold kV
  go_enter Tryd.func13, Tryd.ntmps13
  go_wp2_with fail
  all_goals (go_ret; exact ⟨retb (by rw [hiff.out]; simp; omega), hb⟩)
theorem place1_any (a b : KeyD) (w : World) : Calls Tryd.prog 50 #[kV a, kV b] w fun e w' => e = .returned (.int .i64 (ordI a b)) ∧ Below w.heap.size w w' := by
  have hb := ((Below.refl w.heap.size w).alloc (Nat.le_refl _) (.cells #[.int .i64 a.party, .int .i64 a.serial, .string a.secret, .int .i64 a.fr, .int .i64 a.to] 24)).alloc (by simp) (.cells #[.int .i64 b.party, .int .i64 b.serial, .string b.secret, .int .i64 b.fr, .int .i64 b.to] 24)
  unfold kV
  go_enter Tryd.func50, Tryd.ntmps50
  go_wp2_with (go_at_call 33; refine (order_any a b _).mono ?_; rintro e w' ⟨rfl, hb'⟩)
  go_ret
  exact ⟨rfl, hb.trans (hb'.mono (by simp; omega))⟩
/-- the keys' cells, one after the other -/
def keysC (l : List KeyD) : List Value := l.flatMap kC
theorem keysC_nil : keysC [] = [] := rfl
theorem keysC_append (a b : List KeyD) : keysC (a ++ b) = keysC a ++ keysC b := by simp [keysC]
theorem keysC_length (l : List KeyD) : (keysC l).length = l.length * 5 := by
  induction l with
  | nil => rfl
  | cons k l ih => rw [keysC, List.flatMap_cons, List.length_append]; rw [keysC] at ih; rw [ih, List.length_cons]; simp [kC]; omega
theorem keysC_at {w : World} {b off : Nat} {l : List KeyD} (h : At w b off (keysC l)) {i : Nat} {k : KeyD} (hk : l[i]? = some k) : At w b (off + i * 5) (kC k) := by
  obtain ⟨hi, rfl⟩ := List.getElem?_eq_some_iff.mp hk
  have e : (keysC l).drop (i * 5) = kC l[i] ++ keysC (l.drop (i + 1)) := by
    have e1 : l = l.take i ++ (l[i] :: l.drop (i + 1)) := by rw [List.getElem_cons_drop, List.take_append_drop]
    have e2 : keysC l = keysC (l.take i) ++ (kC l[i] ++ keysC (l.drop (i + 1))) := by
      conv => lhs; rw [e1]
      rw [keysC_append]; rfl
    have e3 : (keysC (l.take i)).length = i * 5 := by rw [keysC_length, List.length_take]; congr 1; omega
    rw [e2, ← e3, List.drop_left]
  have h1 := h.sub (i * 5) 5
  rw [e] at h1
  have e4 : (kC l[i] ++ keysC (l.drop (i + 1))).take 5 = kC l[i] := by
    have : (kC l[i]).length = 5 := rfl
    rw [← this, List.take_left]
  rw [e4] at h1; exact h1
theorem kcell {w : World} {b o : Nat} {k : KeyD} (h : At w b o (kC k)) : w.cell? ⟨b, o, none⟩ = some (.int .i64 k.party) ∧ w.cell? ⟨b, o + 1, none⟩ = some (.int .i64 k.serial) ∧ w.cell? ⟨b, o + 2, none⟩ = some (.string k.secret) ∧ w.cell? ⟨b, o + 3, none⟩ = some (.int .i64 k.fr) ∧ w.cell? ⟨b, o + 4, none⟩ = some (.int .i64 k.to) :=
  ⟨h 0 _ rfl, h 1 _ rfl, h 2 _ rfl, h 3 _ rfl, h 4 _ rfl⟩
theorem kbox {w : World} {b : Nat} {k : KeyD} (h : Blk w b 24 (kC k)) : w.cell? ⟨b, 0, none⟩ = some (.int .i64 k.party) ∧ w.cell? ⟨b, 1, none⟩ = some (.int .i64 k.serial) ∧ w.cell? ⟨b, 2, none⟩ = some (.string k.secret) ∧ w.cell? ⟨b, 3, none⟩ = some (.int .i64 k.fr) ∧ w.cell? ⟨b, 4, none⟩ = some (.int .i64 k.to) :=
  ⟨h.cell (i := 0) rfl, h.cell (i := 1) rfl, h.cell (i := 2) rfl, h.cell (i := 3) rfl, h.cell (i := 4) rfl⟩
/-- the key at the place is the one that is sought -/
def found (l : List KeyD) (p s : Int) (i : Nat) : Bool := match l[i]? with | none => false | some k => k.is p s
theorem found_some {l : List KeyD} {p s : Int} {i : Nat} {k : KeyD} (h : l[i]? = some k) : found l p s i = k.is p s := by unfold found; rw [h]
theorem found_none {l : List KeyD} {p s : Int} {i : Nat} (h : l.length ≤ i) : found l p s i = false := by unfold found; rw [List.getElem?_eq_none h]
attribute [irreducible] found
/-- a slice of keys that reads as l -/
def Ks (w : World) (A : Option Addr) (l : List KeyD) : Prop := Rd w A (keysC l)
theorem Ks.get {w : World} {A : Option Addr} {l : List KeyD} (h : Ks w A l) {i : Nat} {k : KeyD} (hk : l[i]? = some k) : ∃ b off, A = some ⟨b, off, none⟩ ∧ b < w.heap.size ∧ At w b (off + i * 5) (kC k) := by
  have hi := (List.getElem?_eq_some_iff.mp hk).1
  have hl : 0 < (keysC l).length := by rw [keysC_length]; omega
  obtain ⟨b, off, e, hat⟩ := h hl
  have hc := keysC_at hat hk
  exact ⟨b, off, e, block_lt_of_cell (kcell hc).1, hc⟩
theorem Ks.below {w w' : World} {A : Option Addr} {l : List KeyD} (h : Ks w A l) (hb : Below w.heap.size w w') : Ks w' A l := Rd.below h hb
theorem ord_lt {a b : KeyD} : ordI a b < 0 ↔ a.lt b = true := by
  rw [KeyD.lt_iff]; unfold ordI or2
  rcases Int.lt_trichotomy a.party b.party with h | h | h
  · rw [cmpI_lt h]; simp; omega
  · rw [cmpI_eq h, if_pos rfl]
    rcases Int.lt_trichotomy a.serial b.serial with h2 | h2 | h2
    · rw [cmpI_lt h2]; simp; omega
    · rw [cmpI_eq h2]; simp; omega
    · rw [cmpI_gt h2]; simp; omega
  · rw [cmpI_gt h]; simp; omega
theorem ord_eq {a b : KeyD} : ordI a b = 0 ↔ a.is b.party b.serial = true := by
  rw [KeyD.is_iff]; unfold ordI or2
  rcases Int.lt_trichotomy a.party b.party with h | h | h
  · rw [cmpI_lt h]; simp; omega
  · rw [cmpI_eq h, if_pos rfl]
    rcases Int.lt_trichotomy a.serial b.serial with h2 | h2 | h2
    · rw [cmpI_lt h2]; simp; omega
    · rw [cmpI_eq h2]; simp; omega
    · rw [cmpI_gt h2]; simp; omega
  · rw [cmpI_gt h]; simp; omega
attribute [local irreducible] ordI
theorem below_drewN {B : Nat} {a w : World} (h : Below B a w) (n : Nat) : Below B a (w.drewN n) := ⟨h.os, h.tape, h.output, h.size, h.block⟩
theorem alloc_arg {w : World} {t : Nat} {cs : Array Value} : Blk (w.alloc (.cells cs t)) w.heap.size t cs.toList := Blk.new w cs.toList t
set_option maxRecDepth 100000 in
set_option maxHeartbeats 2000000 in
theorem search_any (A : Option Addr) (cap : Nat) (l : List KeyD) (t : KeyD) (w : World) (hl : Ks w A l) (hs : sorted l) (hn : l.length ≤ 1000000) :
    Calls Tryd.prog 49 #[.slice A l.length cap, kV t, .func (.func 50) #[] #[]] w fun e w' => ∃ i : Nat, IsPlace l t.party t.serial i ∧ e = .returned (.tuple #[.int .i64 i, .bool (found l t.party t.serial i)]) ∧ Below w.heap.size w w' := by
  replace hs := hide hs
  have hb := (Below.refl w.heap.size w).alloc (Nat.le_refl _) (.cells #[.int .i64 t.party, .int .i64 t.serial, .string t.secret, .int .i64 t.fr, .int .i64 t.to] 24)
  have hT : Blk (w.alloc (.cells #[.int .i64 t.party, .int .i64 t.serial, .string t.secret, .int .i64 t.fr, .int .i64 t.to] 24)) w.heap.size 24 (kC t) := Blk.new w (kC t) 24
  have hL := hl.below hb
  unfold kV
  go_enter Tryd.func49, Tryd.ntmps49
  go_wp2_with fail
  obtain ⟨W, hW⟩ : ∃ W, W = w.alloc (.cells #[.int .i64 t.party, .int .i64 t.serial, .string t.secret, .int .i64 t.fr, .int .i64 t.to] 24) := ⟨_, rfl⟩
  rw [← hW] at hb hT hL ⊢
  clear hW hl
  go_loopw [9, 10] (fun a b wr => ∃ i j : Nat, a = .int .i64 i ∧ b = .int .i64 j ∧ i ≤ j ∧ j ≤ l.length ∧ Hid (∀ x k, x < i → l[x]? = some k → k.lt t = true) ∧ Hid (∀ x k, j ≤ x → l[x]? = some k → k.lt t = false) ∧ Below w.heap.size w wr ∧ Blk wr w.heap.size 24 (kC t) ∧ Ks wr A l) (fun a b _ => (intOf b - intOf a).toNat)
  case atStart => exact ⟨0, l.length, rfl, rfl, Nat.zero_le _, Nat.le_refl _, hide (fun x k hx => absurd hx (by omega)), hide (fun x k hx hk => by have := (List.getElem?_eq_some_iff.mp hk).1; omega), hb, hT, hL⟩
  case round =>
    clear hb hT hL
    obtain ⟨i, j, rfl, rfl, hij, hjl, hlo, hhi, hb, hT, hL⟩ := hrel
    by_cases hlt : i < j
    · obtain ⟨h, hh⟩ : ∃ h : Nat, h = (i + j) / 2 := ⟨_, rfl⟩
      have h1 : (h : Int) < (l.length : Int) := by omega
      have h2 : (0 : Int) ≤ (h : Int) := by omega
      obtain ⟨k, hk⟩ : ∃ k, l[h]? = some k := ⟨l[h], List.getElem?_eq_getElem (by omega)⟩
      obtain ⟨b, off, rfl, hbl, hkc⟩ := hL.get hk
      have hij2 : i ≤ h ∧ h < j := by omega
      replace hh := hide hh
      replace hk := hide hk
      go_wp2_with fail
      have eh : ((i : Int) + (j : Int)) / 2 = (h : Int) := by have := hh.out; omega
      rw [eh]
      clear eh
      have hord := hide (ord_lt (a := k) (b := t))
      go_region_held3 (fun w' => (w'.cell? ⟨b, off + h * 5, none⟩ = some (.int .i64 k.party) ∧ w'.cell? ⟨b, off + h * 5 + 1, none⟩ = some (.int .i64 k.serial) ∧ w'.cell? ⟨b, off + h * 5 + 2, none⟩ = some (.string k.secret) ∧ w'.cell? ⟨b, off + h * 5 + 3, none⟩ = some (.int .i64 k.fr) ∧ w'.cell? ⟨b, off + h * 5 + 4, none⟩ = some (.int .i64 k.to)) ∧ (w'.cell? ⟨w.heap.size, 0, none⟩ = some (.int .i64 t.party) ∧ w'.cell? ⟨w.heap.size, 1, none⟩ = some (.int .i64 t.serial) ∧ w'.cell? ⟨w.heap.size, 2, none⟩ = some (.string t.secret) ∧ w'.cell? ⟨w.heap.size, 3, none⟩ = some (.int .i64 t.fr) ∧ w'.cell? ⟨w.heap.size, 4, none⟩ = some (.int .i64 t.to))) (first | exact ⟨kcell hkc, kbox hT⟩ | exact ⟨kcell hkc2, kbox hT2⟩) (first
        | (go_at_call 50; refine (place1_any k t _).mono ?_; rintro e w2 ⟨rfl, hb2⟩; have hkc2 := hkc.drew.below hb2; have hT2 := hT.drew.ext hb2; have hL2 := hL.drew.below hb2; have hB2 := ext_trans (ext_drew hb) hb2))
      by_cases ho : ordI k t < 0
      · go_wp2_with fail
        go_roundw
        case rel =>
          have hkt := hord.out.1 ho
          refine ⟨h + 1, j, by go_num, rfl, by have := hh.out; omega, hjl, hide (fun x y hx hy => ?_), hhi, hB2, hT2, hL2⟩
          by_cases e : x = h
          · subst e; rw [hk.out] at hy; cases hy; exact hkt
          · have h3 := hs.out x h y k (by omega) hy hk.out
            rw [KeyD.lt_iff] at h3 hkt ⊢; omega
        case measure => simp [intOf]; have := hh.out; omega
      · go_wp2_with fail
        go_roundw
        case rel =>
          have hkt : k.lt t = false := by rw [← Bool.not_eq_true, ← hord.out]; exact ho
          refine ⟨i, h, rfl, rfl, by have := hh.out; omega, by omega, hlo, hide (fun x y hx hy => ?_), hB2, hT2, hL2⟩
          by_cases e : x = h
          · subst e; rw [hk.out] at hy; cases hy; exact hkt
          · have h3 := hs.out h x k y (by omega) hk.out hy
            rw [← Bool.not_eq_true, KeyD.lt_iff] at hkt ⊢
            rw [KeyD.lt_iff] at h3; omega
        case measure => simp [intOf]; have := hh.out; omega
    · obtain rfl : i = j := by omega
      have hp : IsPlace l t.party t.serial i := ⟨hjl, fun x k hx hk => hlo.out x k hx hk, fun x k hx hk => hhi.out x k hx hk⟩
      replace hp := hide hp
      go_wp2_with fail
      by_cases hi : i < l.length
      · obtain ⟨k, hk⟩ : ∃ k, l[i]? = some k := ⟨l[i], List.getElem?_eq_getElem hi⟩
        obtain ⟨b, off, rfl, hbl, hkc⟩ := hL.get hk
        replace hk := hide hk
        have h1 : (i : Int) < (l.length : Int) := by omega
        have h2 : (0 : Int) ≤ (i : Int) := by omega
        have h3 : decide ((i : Int) < (l.length : Int)) = true := by simpa using hi
        have hord := hide (ord_eq (a := k) (b := t))
        go_region_held3 (fun w' => (w'.cell? ⟨b, off + i * 5, none⟩ = some (.int .i64 k.party) ∧ w'.cell? ⟨b, off + i * 5 + 1, none⟩ = some (.int .i64 k.serial) ∧ w'.cell? ⟨b, off + i * 5 + 2, none⟩ = some (.string k.secret) ∧ w'.cell? ⟨b, off + i * 5 + 3, none⟩ = some (.int .i64 k.fr) ∧ w'.cell? ⟨b, off + i * 5 + 4, none⟩ = some (.int .i64 k.to)) ∧ (w'.cell? ⟨w.heap.size, 0, none⟩ = some (.int .i64 t.party) ∧ w'.cell? ⟨w.heap.size, 1, none⟩ = some (.int .i64 t.serial) ∧ w'.cell? ⟨w.heap.size, 2, none⟩ = some (.string t.secret) ∧ w'.cell? ⟨w.heap.size, 3, none⟩ = some (.int .i64 t.fr) ∧ w'.cell? ⟨w.heap.size, 4, none⟩ = some (.int .i64 t.to))) (first | exact ⟨kcell hkc, kbox hT⟩ | exact ⟨kcell hkc2, kbox hT2⟩) (first
          | (go_at_call 50; refine (place1_any k t _).mono ?_; rintro e w2 ⟨rfl, hb2⟩; have hkc2 := hkc.drew.below hb2; have hT2 := hT.drew.ext hb2; have hB2 := ext_trans (ext_drew hb) hb2))
        go_wp2_with fail
        go_ret2
        refine ⟨i, hp.out, ?_, hB2⟩
        have e1 : (ordI k t == 0) = k.is t.party t.serial := Bool.eq_iff_iff.2 (by rw [beq_iff_eq]; exact hord.out)
        rw [found_some hk.out, ← e1]
        rfl
      · have h3 : decide ((i : Int) < (l.length : Int)) = false := by simpa using hi
        go_quiet (fail)
        go_wp2_with fail
        go_ret2
        refine ⟨i, hp.out, ?_, below_drewN hb _⟩
        rw [found_none (by omega)]
        rfl
end Go.Proofs.YtbccfgeepdmegaaDoor
