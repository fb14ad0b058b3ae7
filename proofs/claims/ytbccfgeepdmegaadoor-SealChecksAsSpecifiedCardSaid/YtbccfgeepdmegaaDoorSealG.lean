/- Walk: Add. -/
import Derived.Test.YtbccfgeepdmegaaDoorRefC
import Derived.Test.YtbccfgeepdmegaaDoorApp
import Derived.Deep.RegionLawGrows
import Derived.Deep.AppendLies
set_option linter.unusedVariables false
set_option linter.unusedSimpArgs false
set_option linter.unnecessarySimpa false
namespace Go.Proofs.YtbccfgeepdmegaaDoor
open Go Go.RowKit Mem
attribute [local go_sem ↓] Go.wp_at_zero Go.wp_at_succ veil_lk veil_sk
/-- a slice value that reads as the keys l, of a form that Go makes -/
def KsF (w : World) (v : Value) (l : List KeyD) : Prop := ∃ A cap, v = .slice A l.length cap ∧ Ks w A l ∧ l.length ≤ cap ∧ cap ≤ 9223372036854775807 ∧ (A = none → cap = 0)
theorem KsF.below {w w' : World} {v : Value} {l : List KeyD} (h : KsF w v l) (hb : Below w.heap.size w w') : KsF w' v l := by
  obtain ⟨A, cap, h1, h2, h3⟩ := h
  exact ⟨A, cap, h1, Ks.below h2 hb, h3⟩
theorem KsF.ksv {w : World} {v : Value} {l : List KeyD} (h : KsF w v l) : KsV w v l := by
  obtain ⟨A, cap, h1, h2, _⟩ := h
  exact ⟨A, cap, h1, h2⟩
theorem own_ksf {w : World} {base : Nat} {v : Value} {l : List KeyD} (h : w.ownsRow base 24 5 v l.length (keysC l)) : KsF w v l := by
  rcases h.2 with ⟨e, h0⟩ | ⟨g, cap', cur, e, hg, hh, hc, hm, hs, hx⟩
  · subst e
    exact ⟨none, 0, by rw [h0], fun hn => by rw [keysC_length] at hn; omega, by omega, by omega, fun _ => rfl⟩
  · obtain ⟨A, cap, e2, hk⟩ := own_ksv h
    rw [e] at e2
    cases e2
    exact ⟨_, _, e, hk, hc, by unfold maxLen at hm; omega, fun e => by cases e⟩
theorem nil_ksf (w : World) : KsF w (.slice none 0 0) [] := ⟨none, 0, rfl, fun hn => by simp [keysC] at hn, by simp, by omega, fun _ => rfl⟩
theorem keysC_ones (l : List KeyD) : ones (keysC l) := fun v hv => by
  obtain ⟨k, _, hk⟩ := List.mem_flatMap.1 hv
  exact kC_ones k v hk
theorem keysC_take (l : List KeyD) (i : Nat) : (keysC l).take (i * 5) = keysC (l.take i) := by
  by_cases hi : i ≤ l.length
  · have e : keysC l = keysC (l.take i) ++ keysC (l.drop i) := by rw [← keysC_append, List.take_append_drop]
    have h : (keysC (l.take i)).length = i * 5 := by rw [keysC_length, List.length_take, Nat.min_eq_left hi]
    rw [e, ← h, List.take_left]
  · rw [List.take_of_length_le (by rw [keysC_length]; omega), List.take_of_length_le (by omega)]
theorem keysC_drop (l : List KeyD) (i : Nat) : (keysC l).drop (i * 5) = keysC (l.drop i) := by
  by_cases hi : i ≤ l.length
  · have e : keysC l = keysC (l.take i) ++ keysC (l.drop i) := by rw [← keysC_append, List.take_append_drop]
    have h : (keysC (l.take i)).length = i * 5 := by rw [keysC_length, List.length_take, Nat.min_eq_left hi]
    rw [e, ← h, List.drop_left]
  · rw [List.drop_eq_nil_of_le (by rw [keysC_length]; omega), List.drop_eq_nil_of_le (by omega)]; rfl
theorem blk_grown {w w' : World} {base e size n b t : Nat} {cs : List Value} {v : Value} {xs : List Value} (hk : Blk w b t cs) (h : w.ownsRow base e size v n xs) (hg : w.grownBy w' v.ownBlock) (hb : b < base) : Blk w' b t cs :=
  (hg.block b hk.lt (fun e => by have := own_ge h b e.symm; omega)).trans hk
theorem ks_pre {w : World} {A : Option Addr} {l : List KeyD} (h : Ks w A l) (i : Nat) {ad : Addr} (e : A = some ad) : ∀ j u, (keysC (l.take i))[j]? = some u → w.cell? (ad.add j) = some u := by
  intro j u hu
  rw [← keysC_take, List.getElem?_take] at hu
  split at hu
  · have hlt := (List.getElem?_eq_some_iff.mp hu).1
    obtain ⟨b, off, e2, hat⟩ := h (by omega)
    rw [e] at e2; cases e2
    rw [add_at]; exact hat j u hu
  · cases hu
theorem ks_src {w : World} {A : Option Addr} {l : List KeyD} {cap : Nat} (h : Ks w A l) (i : Nat) (hi : i ≤ l.length) (hc : l.length ≤ cap) : Src w 5 (if cap = i then A else Option.map (fun x => x.add (i * 5)) A) (l.length - i) (keysC (l.drop i)) := by
  refine ⟨by rw [keysC_length, List.length_drop], fun hm => ?_⟩
  obtain ⟨b, off, rfl, hat⟩ := h (by rw [keysC_length]; omega)
  rw [if_neg (by omega)]
  refine ⟨⟨b, off + i * 5, none⟩, by simp only [Option.map_some, add_at], fun j u hu => ?_⟩
  rw [← keysC_drop, List.getElem?_drop] at hu
  rw [add_at, Nat.add_assoc]; exact hat _ u hu
set_option maxRecDepth 100000 in
set_option maxHeartbeats 4000000 in
theorem add_keys (A : Option Addr) (cap : Nat) (l : List KeyD) (k : KeyD) (w : World) (hl : Ks w A l) (hr : sorted l) (hk : k.ok) (hn : l.length ≤ 1000000) (hcap : l.length ≤ cap) (hc2 : cap ≤ 9223372036854775807) (hnil : A = none → cap = 0) :
    Calls Tryd.prog 14 #[.slice A l.length cap, kV k] w fun e w' => ∃ v, e = .returned (.tuple #[v, .int .i64 (addE l k)]) ∧ KsF w' v (addL l k) ∧ Below w.heap.size w w' := by
  have hk5 := fun k => hide (kC_size k)
  have hko := fun k => hide (kC_ones k)
  obtain ⟨i0, hi0, hi1, hi2, hi3⟩ := info_parts info_key
  replace hi0 := hide hi0
  replace hi1 := hide hi1
  replace hi2 := hide hi2
  replace hi3 := hide hi3
  have hb := (Below.refl w.heap.size w).alloc (Nat.le_refl _) (.cells (kC k).toArray 24)
  have hX := Blk.new w (kC k) 24
  have hL := Ks.below hl hb
  have hpl := fun W h => place_any A cap l k.party k.serial W h hr hn
  replace hpl := hide hpl
  replace hk := hide hk
  replace hr := hide hr
  obtain ⟨W, hW, hX, hb, hL⟩ : ∃ W, W = w.alloc (.cells #[.int .i64 k.party, .int .i64 k.serial, .string k.secret, .int .i64 k.fr, .int .i64 k.to] 24) ∧ Blk W w.heap.size 24 (kC k) ∧ Below w.heap.size w W ∧ Ks W A l := ⟨_, rfl, hX, hb, hL⟩
  clear hl
  obtain ⟨c0, c1, _⟩ := kbox hX
  unfold kV
  cases hv : k.valid with
  | false =>
    obtain ⟨e1, e2⟩ := add_invalid (l := l) hv
    rw [e1, e2]
    clear e1 e2
    go_enter Tryd.func14, Tryd.ntmps14
    go_upto_region 1 with fail
    rw [← hW]
    clear hW
    go_wp2_with (first
      | (go_at_call 36; refine (hpl.out _ hL).mono ?_; rintro e w2 ⟨i, hi, rfl, hb2⟩; have X2 := hX.ext hb2; have B2 := ext_trans hb hb2)
      | (refine vl_load w.heap.size 24 (kC k) _ (by rfl) X2 Tryd.underlying24 (by rfl) (hk5 _).out ?_; simp only [kC]; (try simp only [Act.put, List.setIfInBounds_toArray, List.set_cons_zero, List.set_cons_succ]))
      | (go_at_call 12; refine (valid_any k _ hk.out).mono ?_; rintro e w3 ⟨rfl, hb3⟩; have B3 := ext_trans B2 hb3))
    go_ret2
    exact ⟨_, rfl, nil_ksf _, B3⟩
  | true =>
    cases hf : find l k.party k.serial with
    | some a =>
      obtain ⟨e1, e2⟩ := add_twice hv hf
      rw [e1, e2]
      clear e1 e2
      replace hf := hide hf
      go_enter Tryd.func14, Tryd.ntmps14
      go_upto_region 1 with fail
      rw [← hW]
      clear hW
      go_wp2_with (first
        | (go_at_call 36; refine (hpl.out _ hL).mono ?_; rintro e w2 ⟨i, hi, rfl, hb2⟩; rw [(find_found hr.out hi hf.out).1]; have X2 := hX.ext hb2; have B2 := ext_trans hb hb2)
        | (refine vl_load w.heap.size 24 (kC k) _ (by rfl) X2 Tryd.underlying24 (by rfl) (hk5 _).out ?_; simp only [kC]; (try simp only [Act.put, List.setIfInBounds_toArray, List.set_cons_zero, List.set_cons_succ]))
        | (go_at_call 12; refine (valid_any k _ hk.out).mono ?_; rintro e w3 ⟨rfl, hb3⟩; have B3 := ext_trans B2 hb3))
      go_ret2
      exact ⟨_, rfl, nil_ksf _, B3⟩
    | none =>
      by_cases h500 : l.length = 500
      · obtain ⟨e1, e2⟩ := add_full hv hf h500
        rw [e1, e2]
        clear e1 e2
        replace hf := hide hf
        have h5' : ((l.length : Int) == 500) = true := by simp; omega
        replace h500 := hide h500
        go_enter Tryd.func14, Tryd.ntmps14
        go_upto_region 1 with fail
        rw [← hW]
        clear hW
        go_wp2_with (first
          | (go_at_call 36; refine (hpl.out _ hL).mono ?_; rintro e w2 ⟨i, hi, rfl, hb2⟩; rw [find_nofound hi hf.out]; have X2 := hX.ext hb2; have B2 := ext_trans hb hb2)
          | (refine vl_load w.heap.size 24 (kC k) _ (by rfl) X2 Tryd.underlying24 (by rfl) (hk5 _).out ?_; simp only [kC]; (try simp only [Act.put, List.setIfInBounds_toArray, List.set_cons_zero, List.set_cons_succ]))
          | (go_at_call 12; refine (valid_any k _ hk.out).mono ?_; rintro e w3 ⟨rfl, hb3⟩; have B3 := ext_trans B2 hb3))
        go_ret2
        exact ⟨_, rfl, nil_ksf _, B3⟩
      · obtain ⟨e1, e2⟩ := add_ok hv hf h500
        rw [e1, e2]
        clear e1 e2
        have h5' : ((l.length : Int) == 500) = false := by simp; omega
        replace hf := hide hf
        go_enter Tryd.func14, Tryd.ntmps14
        go_upto_region 1 with fail
        rw [← hW]
        clear hW
        go_wp2_with (first
          | (go_at_call 36; refine (hpl.out _ hL).mono ?_; rintro e w2 ⟨i, hi, rfl, hb2⟩; rw [find_nofound hi hf.out]; have X2 := hX.ext hb2; have L2 := Ks.below hL hb2; have B2 := ext_trans hb hb2)
          | (refine vl_load w.heap.size 24 (kC k) _ (by rfl) X2 Tryd.underlying24 (by rfl) (hk5 _).out ?_; simp only [kC]; (try simp only [Act.put, List.setIfInBounds_toArray, List.set_cons_zero, List.set_cons_succ]))
          | (go_at_call 12; refine (valid_any k _ hk.out).mono ?_; rintro e w3 ⟨rfl, hb3⟩; have B3 := ext_trans B2 hb3; have X3 := X2.ext hb3; have L3 := Ks.below L2 hb3))
        have hil := hi.le
        have i1 : (i : Int) ≤ (l.length : Int) := by omega
        have i2 : (0 : Int) ≤ (i : Int) := by omega
        have i3 : (i : Int) ≤ (cap : Int) := by omega
        have i4 : i ≤ cap := by omega
        refine wp_region_held_drew (S := (fun w' => (w'.cell? ⟨w.heap.size, 0, none⟩ = some (.int .i64 k.party) ∧ w'.cell? ⟨w.heap.size, 1, none⟩ = some (.int .i64 k.serial) ∧ w'.cell? ⟨w.heap.size, 2, none⟩ = some (.string k.secret) ∧ w'.cell? ⟨w.heap.size, 3, none⟩ = some (.int .i64 k.fr) ∧ w'.cell? ⟨w.heap.size, 4, none⟩ = some (.int .i64 k.to)))) (by kernel_rfl) (kbox X3) (fun hHeld => ?_)
        (refine wpAnyH_take (i := 0) (oi := ⟨some 27, _, _, _, _, _⟩) (v := ?_) rfl (by kernel_rfl) (by kernel_rfl) (by kernel_rfl) (fun _ _ _ h => h) (Or.inl ⟨by kernel_rfl, ?_⟩) hHeld ?_; rotate_left; (focus (intro wS hSw; (try dsimp only at hSw); go_simp; (try with_reducible rfl); done)); (try simp only [Act.put, List.setIfInBounds_toArray, List.set_cons_zero, List.set_cons_succ]); refine wpAnyH_take (i := 1) (oi := ⟨some 28, _, _, _, _, _⟩) (v := ?_) rfl (by kernel_rfl) (by kernel_rfl) (by kernel_rfl) (fun _ _ _ h => h) (Or.inl ⟨by kernel_rfl, ?_⟩) hHeld ?_; rotate_left; (focus (intro wS hSw; (try dsimp only at hSw); go_simp; (try with_reducible rfl); done)); (try simp only [Act.put, List.setIfInBounds_toArray, List.set_cons_zero, List.set_cons_succ]); refine wpAnyH_take (i := 2) (oi := ⟨some 29, _, _, _, _, _⟩) (v := ?_) rfl (by kernel_rfl) (by kernel_rfl) (by kernel_rfl) (fun _ _ _ h => h) (Or.inl ⟨by kernel_rfl, ?_⟩) hHeld ?_; rotate_left; (focus (intro wS hSw; (try dsimp only at hSw); go_simp; (try with_reducible rfl); done)); (try simp only [Act.put, List.setIfInBounds_toArray, List.set_cons_zero, List.set_cons_succ]); refine wpAnyH_take (i := 3) (oi := ⟨some 30, _, _, _, _, _⟩) (v := ?_) rfl (by kernel_rfl) (by kernel_rfl) (by kernel_rfl) (fun _ _ _ h => h) (Or.inl ⟨by kernel_rfl, ?_⟩) hHeld ?_; rotate_left; (focus (intro wS hSw; (try dsimp only at hSw); go_simp; (try with_reducible rfl); done)); (try simp only [Act.put, List.setIfInBounds_toArray, List.set_cons_zero, List.set_cons_succ]); refine wpAnyH_take (i := 4) (oi := ⟨some 31, _, _, _, _, _⟩) (v := ?_) rfl (by kernel_rfl) (by kernel_rfl) (by kernel_rfl) (fun _ _ _ h => h) (Or.inl ⟨by kernel_rfl, ?_⟩) hHeld ?_; rotate_left; (focus (intro wS hSw; (try dsimp only at hSw); go_simp; (try with_reducible rfl); done)); (try simp only [Act.put, List.setIfInBounds_toArray, List.set_cons_zero, List.set_cons_succ]); refine wpAnyH_take (i := 7) (oi := ⟨some 34, _, _, _, _, _⟩) (v := ?_) rfl (by kernel_rfl) (by kernel_rfl) (by kernel_rfl) (fun _ _ _ h => h) (Or.inl ⟨by kernel_rfl, ?_⟩) hHeld ?_; rotate_left; (focus (intro wS hSw; (try dsimp only at hSw); go_simp; (try with_reducible rfl); done)); (try simp only [Act.put, List.setIfInBounds_toArray, List.set_cons_zero, List.set_cons_succ]); refine wpAnyH_take (i := 8) (oi := ⟨some 35, _, _, _, _, _⟩) (v := ?_) rfl (by kernel_rfl) (by kernel_rfl) (by kernel_rfl) (fun _ _ _ h => h) (Or.inl ⟨by kernel_rfl, ?_⟩) hHeld ?_; rotate_left; (focus (intro wS hSw; (try dsimp only at hSw); go_simp; (try with_reducible rfl); done)); (try simp only [Act.put, List.setIfInBounds_toArray, List.set_cons_zero, List.set_cons_succ]); refine wpAnyH_take (i := 9) (oi := ⟨some 36, _, _, _, _, _⟩) (v := ?_) rfl (by kernel_rfl) (by kernel_rfl) (by kernel_rfl) (fun _ _ _ h => h) (Or.inl ⟨by kernel_rfl, ?_⟩) hHeld ?_; rotate_left; (focus (intro wS hSw; (try dsimp only at hSw); go_simp; (try with_reducible rfl); done)); (try simp only [Act.put, List.setIfInBounds_toArray, List.set_cons_zero, List.set_cons_succ]))
        (refine wpAnyH_ready (rs := [5]) (by kernel_rfl) (by simp) ?_; refine AllReadyH.cons (o := ⟨some 32, _, _, _, _, _⟩) rfl (fun K hK => ?_) AllReadyH.nil; go_simp)
        obtain ⟨w4, hw4, X4, hN, L4, B4, sz4⟩ : ∃ w4, w4 = (w3.alloc (.cells #[.int .i64 k.party, .int .i64 k.serial, .string k.secret, .int .i64 k.fr, .int .i64 k.to] 24)).drew ∧ Blk w4 w.heap.size 24 (kC k) ∧ (∀ j u, (kC k)[j]? = some u → w4.cell? ((⟨w3.heap.size, 0, none⟩ : Addr).add j) = some u) ∧ Ks w4 A l ∧ Below w.heap.size w w4 ∧ w4.heap.size = w3.heap.size + 1 := ⟨_, rfl, (X3.alloc (.cells #[.int .i64 k.party, .int .i64 k.serial, .string k.secret, .int .i64 k.fr, .int .i64 k.to] 24)).drew, cell_newL w3 (kC k) 24, Rd.drew (Rd.alloc L3 _), (ext_alloc B3 _).drew, World.size_alloc _ _⟩
        rw [← hw4]
        clear hw4
        (refine hK.out _ _ (kbox X4) (fun hHeld => ?_); clear hK K; (try simp only [Act.put, List.setIfInBounds_toArray, List.set_cons_zero, List.set_cons_succ]))
        (refine wpAnyH_ready (rs := [6]) (by kernel_rfl) (by simp) ?_; refine AllReadyH.cons (o := ⟨some 33, _, _, _, _, _⟩) rfl (fun K hK => ?_) AllReadyH.nil)
        refine step_append_grows rfl (.tmp 30) (.tmp 32) 22 rfl 24 i0 (kV (key0 0 0)) 5 48 Tryd.underlying22 hi0.out hi1.out hi2.out hi3.out rfl (by decide) A i i (keysC (l.take i)) (by rfl) (fun e => ?_) (by rw [keysC_length, List.length_take, Nat.min_eq_left hil]) (fun ad e => ks_pre L4 i e) ⟨w3.heap.size, 0, none⟩ 1 1 (kC k) (by rfl) rfl hN (hko k).out (by omega) (by simp only [maxLen]; omega) (by omega) (fun v5 w5 own5 g5 => ?_)
        · have := hnil e; omega
        have X5 : Blk w5 w.heap.size 24 (kC k) := X4.ext (below_grown0 (Below.refl _ _) (Nat.le_refl _) g5)
        have L5 : Ks w5 A l := Ks.below L4 (below_grown0 (Below.refl _ _) (Nat.le_refl _) g5)
        have B5 := below_grown0 B4 B4.size g5
        (refine hK.out _ _ (kbox X5) (fun hHeld => ?_); clear hK K; (try simp only [Act.put, List.setIfInBounds_toArray, List.set_cons_zero, List.set_cons_succ]))
        (refine wpAnyH_ready (rs := [10]) (by kernel_rfl) (by simp) ?_; refine AllReadyH.cons (o := ⟨some 37, _, _, _, _, _⟩) rfl (fun K hK => ?_) AllReadyH.nil)
        refine step_append_src rfl (.tmp 33) (.tmp 36) 22 rfl w4.heap.size 24 i0 (kV (key0 0 0)) 5 48 Tryd.underlying22 hi0.out hi1.out hi2.out hi3.out rfl (by decide) v5 (i + 1) _ (by rfl) own5 (if cap = i then A else Option.map (fun x => x.add (i * 5)) A) (l.length - i) (cap - i) (keysC (l.drop i)) (by rfl) (ks_src L5 i hil hcap) (keysC_ones _) (by simp only [maxLen]; omega) (by omega) (by have := g5.size; omega) (fun v6 w6 own6 g6 => ?_)
        have B6 := below_grown1 B5 B5.size own5 B4.size g6
        have X6 : Blk w6 w.heap.size 24 (kC k) := blk_grown X5 own5 g6 (by have := X4.lt; omega)
        (refine hK.out _ _ (kbox X6) (fun hHeld => ?_); clear hK K; (try simp only [Act.put, List.setIfInBounds_toArray, List.set_cons_zero, List.set_cons_succ]))
        (refine wpAnyH_take (i := 11) (oi := ⟨some 4, _, _, _, _, _⟩) (v := ?_) rfl (by kernel_rfl) (by kernel_rfl) (by kernel_rfl) (fun _ _ _ h => h) (Or.inl ⟨by kernel_rfl, ?_⟩) hHeld ?_; rotate_left; (focus (intro wS hSw; (try dsimp only at hSw); go_simp; (try with_reducible rfl); done)); (try simp only [Act.put, List.setIfInBounds_toArray, List.set_cons_zero, List.set_cons_succ]); refine wpAnyH_take (i := 12) (oi := ⟨some 5, _, _, _, _, _⟩) (v := ?_) rfl (by kernel_rfl) (by kernel_rfl) (by kernel_rfl) (fun _ _ _ h => h) (Or.inl ⟨by kernel_rfl, ?_⟩) hHeld ?_; rotate_left; (focus (intro wS hSw; (try dsimp only at hSw); go_simp; (try with_reducible rfl); done)); (try simp only [Act.put, List.setIfInBounds_toArray, List.set_cons_zero, List.set_cons_succ]))
        (refine wpAnyH_done (by kernel_rfl) ?_ _)
        have hput := put_insert hr.out hi (fun a ha => by
          have h0 := find_nofound hi hf.out
          rw [found_some ha] at h0; exact h0)
        have hlen : (put l k).length = i + 1 + (l.length - i) := by rw [hput]; simp only [List.length_append, List.length_take, List.length_drop, List.length_singleton, Nat.min_eq_left hil]
        have hcs : keysC (put l k) = keysC (l.take i) ++ kC k ++ keysC (l.drop i) := by rw [hput, keysC_append, keysC_snoc]
        rw [← hlen, ← hcs] at own6
        have K6 := hide (own_ksf own6)
        clear own6 hcs hput
        replace hlen := hide hlen
        go_wp2_with fail
        all_goals (go_ret2; exact ⟨v6, rfl, K6.out, B6⟩)
end Go.Proofs.YtbccfgeepdmegaaDoor
