/- Walk: the reference's put. -/
import Derived.Test.YtbccfgeepdmegaaDoorRefA
import Derived.Deep.Cut
import Derived.Deep.DeepCutAuto
import Derived.Maps.AppendAt
set_option linter.unusedVariables false
set_option linter.unusedSimpArgs false
set_option linter.unnecessarySimpa false
namespace Go.Proofs.YtbccfgeepdmegaaDoor
open Go Go.RowKit Mem
attribute [local go_sem ↓] Go.wp_at_zero Go.wp_at_succ veil_lk veil_sk
theorem info_key : (Tryd.prog.info? 24).map (fun i => (i.zero, i.size, i.bytes)) = some (some (kV (key0 0 0)), 5, 48) := by kernel_rfl
theorem cell_newL (w : World) (cs : List Value) (t : Nat) : ∀ j v, cs[j]? = some v → (w.alloc (.cells cs.toArray t)).cell? ((⟨w.heap.size, 0, none⟩ : Addr).add j) = some v := by
  intro j v h
  have hadd : (⟨w.heap.size, 0, none⟩ : Addr).add j = ⟨w.heap.size, j, none⟩ := by unfold Addr.add; split <;> simp_all
  rw [hadd]; exact (Blk.new w cs t).cell h
theorem own_below {w w' : World} {base e size n : Nat} {v : Value} {xs : List Value} (h : w.ownsRow base e size v n xs) (hb : Below w.heap.size w w') : w'.ownsRow base e size v n xs :=
  h.kept (row := none) ⟨hb.os, hb.tape, hb.output, hb.size, fun i hi _ => hb.block i hi⟩ (by cases hv : v.ownBlock with | none => exact .inl rfl | some g => exact .inr (by simp))
theorem own_at_keep {w w' : World} {base e size n b off : Nat} {cs : List Value} {o : Obj} {v : Value} {xs : List Value} (hk : At w b off cs) (h : w.ownsRow base e size v n xs) (hg : (w.alloc o).grownBy w' v.ownBlock) (hb : b < base) : At w' b off cs := fun i u hi => by
  have hc := hk i u hi
  have hlt : b < w.heap.size := block_lt_of_cell hc
  have h1 := cell_al hc o
  have h2 : w'.heap[b]? = (w.alloc o).heap[b]? := hg.block b (by simp; omega) (fun e => by have := own_ge h b e.symm; omega)
  rw [World.cell?_of_block (a := ⟨b, off + i, none⟩) h2]; exact h1
theorem keysC_snoc (l : List KeyD) (k : KeyD) : keysC (l ++ [k]) = keysC l ++ kC k := by simp [keysC]
theorem own_snoc {w : World} {base : Nat} {v : Value} {o : List KeyD} {k : KeyD} (h : w.ownsRow base 24 5 v (o.length + 1) (keysC o ++ kC k)) : w.ownsRow base 24 5 v (o ++ [k]).length (keysC (o ++ [k])) := by
  rw [keysC_snoc, List.length_append]; exact h
/-- the first part of a step of put -/
def putA (k : KeyD) (st : List KeyD × Bool) (r : KeyD) : List KeyD × Bool := if st.2 = false ∧ r.lt k = false then (st.1 ++ [k], true) else st
theorem putStep_eq (k : KeyD) (st : List KeyD × Bool) (r : KeyD) : putStep k st r = if r.is k.party k.serial then putA k st r else ((putA k st r).1 ++ [r], (putA k st r).2) := rfl
theorem putA_len (k : KeyD) (st : List KeyD × Bool) (r : KeyD) (n : Nat) (h : st.1.length + cond st.2 0 1 ≤ n) : (putA k st r).1.length + cond (putA k st r).2 0 1 ≤ n := by
  unfold putA
  split
  · rename_i hc; rw [hc.1] at h; simp at h ⊢; omega
  · exact h
theorem putTo_len (k : KeyD) (l : List KeyD) : (putTo k l).1.length + cond (putTo k l).2 0 1 ≤ l.length + 1 := by
  suffices h : ∀ (m : List KeyD) (st : List KeyD × Bool) (n : Nat), st.1.length + cond st.2 0 1 ≤ n → (m.foldl (putStep k) st).1.length + cond (m.foldl (putStep k) st).2 0 1 ≤ n + m.length by
    have := h l ([], false) 1 (by simp); unfold putTo; omega
  intro m
  induction m with
  | nil => intro st n h; simpa using h
  | cons a m ih =>
    intro st n h
    rw [List.foldl_cons]
    have h1 : (putStep k st a).1.length + cond (putStep k st a).2 0 1 ≤ n + 1 := by
      have h2 := putA_len k st a n h
      rw [putStep_eq]; split
      · omega
      · simp only [List.length_append, List.length_singleton]; omega
    have := ih _ _ h1
    rw [List.length_cons]; omega
theorem putTo_take {l : List KeyD} {k : KeyD} {i : Nat} {r : KeyD} (hk : l[i]? = some r) : putTo k (l.take (i + 1)) = putStep k (putTo k (l.take i)) r := by
  obtain ⟨h, rfl⟩ := List.getElem?_eq_some_iff.mp hk
  rw [List.take_succ_eq_append_getElem h, putTo_snoc]
theorem putTo_nil (k : KeyD) : putTo k [] = ([], false) := rfl
attribute [local irreducible] putTo
set_option maxRecDepth 100000 in
set_option maxHeartbeats 8000000 in
theorem put_any (A : Option Addr) (cap : Nat) (l : List KeyD) (k : KeyD) (w : World) (hl : Ks w A l) (hn : l.length ≤ 1000000) :
    Calls Tryd.prog 40 #[.slice A l.length cap, kV k] w fun e w' => ∃ v, e = .returned v ∧ w'.ownsRow (w.heap.size + 1) 24 5 v (put l k).length (keysC (put l k)) ∧ Below w.heap.size w w' := by
  have hk5 := fun k => hide (kC_size k)
  have hko := fun k => hide (kC_ones k)
  have hb := (Below.refl w.heap.size w).alloc (Nat.le_refl _) (.cells (kC k).toArray 24)
  have hX := Blk.new w (kC k) 24
  obtain ⟨i0, hi, hi0, hi1, hi2⟩ := info_parts info_key
  replace hi := hide hi
  replace hi0 := hide hi0
  replace hi1 := hide hi1
  replace hi2 := hide hi2
  unfold kV
  go_enter Tryd.func40, Tryd.ntmps40
  go_wp2_with fail
  go_loopw [5, 6, 7] (fun o pl a wr => ∃ (i : Nat) (v : Value), a = .int .i64 i ∧ i ≤ l.length ∧ o = v ∧ pl = .bool (putTo k (l.take i)).2 ∧ wr.ownsRow (w.heap.size + 1) 24 5 v (putTo k (l.take i)).1.length (keysC (putTo k (l.take i)).1) ∧ Blk wr w.heap.size 24 (kC k) ∧ Below w.heap.size w wr) (fun _ _ a _ => l.length - (intOf a).toNat)
  case atStart => exact ⟨0, _, rfl, Nat.zero_le _, rfl, by rw [List.take_zero, putTo_nil], by rw [List.take_zero, putTo_nil]; exact ⟨rfl, .inl ⟨rfl, rfl⟩⟩, hX, hb⟩
  case round =>
    clear hb hX
    obtain ⟨i, v, rfl, hil, rfl, rfl, hown, hX, hb⟩ := hrel
    have hL := hl.below hb
    have hsz := hX.lt
    by_cases hlt : i < l.length
    · have i1 : (i : Int) < (l.length : Int) := by omega
      have i2 : (0 : Int) ≤ (i : Int) := by omega
      obtain ⟨r, hr⟩ : ∃ r, l[i]? = some r := ⟨l[i], List.getElem?_eq_getElem hlt⟩
      obtain ⟨b, off, hA, hbl, hrc0⟩ := Ks.get hl hr
      have hrc := hrc0.below hb
      have hbw : b < w.heap.size + 1 := by omega
      have htk := putTo_take (k := k) hr
      have hlen := putTo_len k (l.take i)
      rw [List.length_take, Nat.min_eq_left hil] at hlen
      obtain ⟨o, pl, hst⟩ : ∃ o pl, putTo k (l.take i) = (o, pl) := ⟨_, _, rfl⟩
      rw [hst] at htk hown hlen ⊢
      simp only at hown hlen
      replace hr := hide hr
      replace hst := hide hst
      subst hA
      have hol : o.length ≤ i + 1 := by omega
      have hol2 := hide (fun h : pl = false => show o.length + 1 ≤ i + 1 by rw [h] at hlen; exact hlen)
      clear hlen
      rw [putStep_eq] at htk
      have hord : pl = true ∨ pl = false ∧ r.lt k = true ∨ pl = false ∧ r.lt k = false := by cases pl <;> cases r.lt k <;> simp
      obtain ⟨o1, pl1, hst1⟩ : ∃ o1 pl1, putA k (o, pl) r = (o1, pl1) := ⟨_, _, rfl⟩
      rw [hst1] at htk
      have hcase : (pl = true ∧ o1 = o ∧ pl1 = true) ∨ (pl = false ∧ r.lt k = true ∧ o1 = o ∧ pl1 = false) ∨ (pl = false ∧ r.lt k = false ∧ o1 = o ++ [k] ∧ pl1 = true) := by
        unfold putA at hst1
        rcases hord with rfl | ⟨rfl, h⟩ | ⟨rfl, h⟩
        · simp at hst1; exact .inl ⟨rfl, hst1.1.symm, hst1.2⟩
        · simp [h] at hst1; exact .inr (.inl ⟨rfl, h, hst1.1.symm, hst1.2⟩)
        · simp [h] at hst1; exact .inr (.inr ⟨rfl, h, hst1.1.symm, hst1.2⟩)
      clear hord
      replace hst1 := hide hst1
      replace htk := hide htk
      rcases hcase with ⟨hpl, eo, epl⟩ | ⟨hpl, hlt2, eo, epl⟩ | ⟨hpl, hlt2, eo, epl⟩
      focus
        subst hpl
        go_wp2_with fail
        refine wp_region_held_drew (S := (fun _ => True)) (by kernel_rfl) (trivial) (fun hHeld => ?_)
        (refine wpAnyH_take (i := 0) (oi := ⟨some 14, _, _, _, _, _⟩) (v := ?_) rfl (by kernel_rfl) (by kernel_rfl) (by kernel_rfl) (fun _ _ _ h => h) (Or.inl ⟨by kernel_rfl, ?_⟩) hHeld ?_; rotate_left; (focus (intro wS hSw; (try dsimp only at hSw); go_simp; (try with_reducible rfl); done)); (try simp only [Act.put, List.setIfInBounds_toArray, List.set_cons_zero, List.set_cons_succ]); refine wpAnyH_take (i := 1) (oi := ⟨some 15, _, _, _, _, _⟩) (v := ?_) rfl (by kernel_rfl) (by kernel_rfl) (by kernel_rfl) (fun _ _ _ h => h) (Or.inl ⟨by kernel_rfl, ?_⟩) hHeld ?_; rotate_left; (focus (intro wS hSw; (try dsimp only at hSw); go_simp; (try with_reducible rfl); done)); (try simp only [Act.put, List.setIfInBounds_toArray, List.set_cons_zero, List.set_cons_succ]); refine wpAnyH_take (i := 2) (oi := ⟨some 16, _, _, _, _, _⟩) (v := ?_) rfl (by kernel_rfl) (by kernel_rfl) (by kernel_rfl) (fun _ _ _ h => h) (Or.inl ⟨by kernel_rfl, ?_⟩) hHeld ?_; rotate_left; (focus (intro wS hSw; (try dsimp only at hSw); go_simp; (try with_reducible rfl); done)); (try simp only [Act.put, List.setIfInBounds_toArray, List.set_cons_zero, List.set_cons_succ]))
        (refine wpAnyH_take (i := 3) (oi := ⟨some 17, _, _, _, _, _⟩) (v := undef) rfl (by kernel_rfl) (by kernel_rfl) (by kernel_rfl) (fun _ _ _ h => h) (Or.inr ⟨by kernel_rfl, rfl⟩) hHeld ?_; (try simp only [Act.put, List.setIfInBounds_toArray, List.set_cons_zero, List.set_cons_succ]); refine wpAnyH_take (i := 4) (oi := ⟨some 18, _, _, _, _, _⟩) (v := undef) rfl (by kernel_rfl) (by kernel_rfl) (by kernel_rfl) (fun _ _ _ h => h) (Or.inr ⟨by kernel_rfl, rfl⟩) hHeld ?_; (try simp only [Act.put, List.setIfInBounds_toArray, List.set_cons_zero, List.set_cons_succ]); refine wpAnyH_take (i := 5) (oi := ⟨some 19, _, _, _, _, _⟩) (v := undef) rfl (by kernel_rfl) (by kernel_rfl) (by kernel_rfl) (fun _ _ _ h => h) (Or.inr ⟨by kernel_rfl, rfl⟩) hHeld ?_; (try simp only [Act.put, List.setIfInBounds_toArray, List.set_cons_zero, List.set_cons_succ]); refine wpAnyH_take (i := 6) (oi := ⟨some 20, _, _, _, _, _⟩) (v := undef) rfl (by kernel_rfl) (by kernel_rfl) (by kernel_rfl) (fun _ _ _ h => h) (Or.inr ⟨by kernel_rfl, rfl⟩) hHeld ?_; (try simp only [Act.put, List.setIfInBounds_toArray, List.set_cons_zero, List.set_cons_succ]); refine wpAnyH_take (i := 7) (oi := ⟨some 21, _, _, _, _, _⟩) (v := undef) rfl (by kernel_rfl) (by kernel_rfl) (by kernel_rfl) (fun _ _ _ h => h) (Or.inr ⟨by kernel_rfl, rfl⟩) hHeld ?_; (try simp only [Act.put, List.setIfInBounds_toArray, List.set_cons_zero, List.set_cons_succ]); refine wpAnyH_take (i := 8) (oi := ⟨some 22, _, _, _, _, _⟩) (v := undef) rfl (by kernel_rfl) (by kernel_rfl) (by kernel_rfl) (fun _ _ _ h => h) (Or.inr ⟨by kernel_rfl, rfl⟩) hHeld ?_; (try simp only [Act.put, List.setIfInBounds_toArray, List.set_cons_zero, List.set_cons_succ]); refine wpAnyH_take (i := 9) (oi := ⟨some 23, _, _, _, _, _⟩) (v := undef) rfl (by kernel_rfl) (by kernel_rfl) (by kernel_rfl) (fun _ _ _ h => h) (Or.inr ⟨by kernel_rfl, rfl⟩) hHeld ?_; (try simp only [Act.put, List.setIfInBounds_toArray, List.set_cons_zero, List.set_cons_succ]))
        (refine wpAnyH_take (i := 10) (oi := ⟨some 24, _, _, _, _, _⟩) (v := ?_) rfl (by kernel_rfl) (by kernel_rfl) (by kernel_rfl) (fun _ _ _ h => h) (Or.inl ⟨by kernel_rfl, ?_⟩) hHeld ?_; rotate_left; (focus (intro wS hSw; (try dsimp only at hSw); go_simp; (try with_reducible rfl); done)); (try simp only [Act.put, List.setIfInBounds_toArray, List.set_cons_zero, List.set_cons_succ]))
        (refine wpAnyH_done (by kernel_rfl) ?_ _)
        go_upto_region 9 with fail
        obtain ⟨W1, hW1⟩ : ∃ W1, W1 = wr.drew := ⟨_, rfl⟩
        have own1 : W1.ownsRow (w.heap.size + 1) 24 5 u5 o1.length (keysC o1) := by rw [hW1, eo]; exact hown
        have X1 : Blk W1 w.heap.size 24 (kC k) := by rw [hW1]; exact hX
        have B1 : Below w.heap.size w W1 := by rw [hW1]; exact hb.drew
        have R1 : At W1 b (off + i * 5) (kC r) := by rw [hW1]; exact hrc
        rw [← hW1]
        have ol1 : o1.length ≤ i + 1 := by rw [eo]; omega
        obtain ⟨v1, hv1⟩ : ∃ v1, v1 = u5 := ⟨_, rfl⟩
        rw [← hv1] at own1 ⊢
        have hpl1 := hide epl
        clear hW1 hown hX hb hrc hrc0 hL hbl hsz eo epl hol i1 i2 hv1 hol2
      rotate_left
      focus
        subst hpl
        go_wp2_with fail
        have K1 := hrc.drew
        have Y1 := hX.drew
        refine wp_region_held_drew (S := (fun w' => (w'.cell? ⟨w.heap.size, 0, none⟩ = some (.int .i64 k.party) ∧ w'.cell? ⟨w.heap.size, 1, none⟩ = some (.int .i64 k.serial) ∧ w'.cell? ⟨w.heap.size, 2, none⟩ = some (.string k.secret) ∧ w'.cell? ⟨w.heap.size, 3, none⟩ = some (.int .i64 k.fr) ∧ w'.cell? ⟨w.heap.size, 4, none⟩ = some (.int .i64 k.to)) ∧ (w'.cell? ⟨b, off + i * 5, none⟩ = some (.int .i64 r.party) ∧ w'.cell? ⟨b, off + i * 5 + 1, none⟩ = some (.int .i64 r.serial) ∧ w'.cell? ⟨b, off + i * 5 + 2, none⟩ = some (.string r.secret) ∧ w'.cell? ⟨b, off + i * 5 + 3, none⟩ = some (.int .i64 r.fr) ∧ w'.cell? ⟨b, off + i * 5 + 4, none⟩ = some (.int .i64 r.to)))) (by kernel_rfl) (⟨kbox Y1, kcell K1⟩) (fun hHeld => ?_)
        (refine wpAnyH_take (i := 0) (oi := ⟨some 14, _, _, _, _, _⟩) (v := ?_) rfl (by kernel_rfl) (by kernel_rfl) (by kernel_rfl) (fun _ _ _ h => h) (Or.inl ⟨by kernel_rfl, ?_⟩) hHeld ?_; rotate_left; (focus (intro wS hSw; (try dsimp only at hSw); go_simp; (try with_reducible rfl); done)); (try simp only [Act.put, List.setIfInBounds_toArray, List.set_cons_zero, List.set_cons_succ]); refine wpAnyH_take (i := 1) (oi := ⟨some 15, _, _, _, _, _⟩) (v := ?_) rfl (by kernel_rfl) (by kernel_rfl) (by kernel_rfl) (fun _ _ _ h => h) (Or.inl ⟨by kernel_rfl, ?_⟩) hHeld ?_; rotate_left; (focus (intro wS hSw; (try dsimp only at hSw); go_simp; (try with_reducible rfl); done)); (try simp only [Act.put, List.setIfInBounds_toArray, List.set_cons_zero, List.set_cons_succ]); refine wpAnyH_take (i := 2) (oi := ⟨some 16, _, _, _, _, _⟩) (v := ?_) rfl (by kernel_rfl) (by kernel_rfl) (by kernel_rfl) (fun _ _ _ h => h) (Or.inl ⟨by kernel_rfl, ?_⟩) hHeld ?_; rotate_left; (focus (intro wS hSw; (try dsimp only at hSw); go_simp; (try with_reducible rfl); done)); (try simp only [Act.put, List.setIfInBounds_toArray, List.set_cons_zero, List.set_cons_succ]); refine wpAnyH_take (i := 3) (oi := ⟨some 17, _, _, _, _, _⟩) (v := ?_) rfl (by kernel_rfl) (by kernel_rfl) (by kernel_rfl) (fun _ _ _ h => h) (Or.inl ⟨by kernel_rfl, ?_⟩) hHeld ?_; rotate_left; (focus (intro wS hSw; (try dsimp only at hSw); go_simp; (try with_reducible rfl); done)); (try simp only [Act.put, List.setIfInBounds_toArray, List.set_cons_zero, List.set_cons_succ]); refine wpAnyH_take (i := 4) (oi := ⟨some 18, _, _, _, _, _⟩) (v := ?_) rfl (by kernel_rfl) (by kernel_rfl) (by kernel_rfl) (fun _ _ _ h => h) (Or.inl ⟨by kernel_rfl, ?_⟩) hHeld ?_; rotate_left; (focus (intro wS hSw; (try dsimp only at hSw); go_simp; (try with_reducible rfl); done)); (try simp only [Act.put, List.setIfInBounds_toArray, List.set_cons_zero, List.set_cons_succ]); refine wpAnyH_take (i := 5) (oi := ⟨some 19, _, _, _, _, _⟩) (v := ?_) rfl (by kernel_rfl) (by kernel_rfl) (by kernel_rfl) (fun _ _ _ h => h) (Or.inl ⟨by kernel_rfl, ?_⟩) hHeld ?_; rotate_left; (focus (intro wS hSw; (try dsimp only at hSw); go_simp; (try with_reducible rfl); done)); (try simp only [Act.put, List.setIfInBounds_toArray, List.set_cons_zero, List.set_cons_succ]); refine wpAnyH_take (i := 6) (oi := ⟨some 20, _, _, _, _, _⟩) (v := ?_) rfl (by kernel_rfl) (by kernel_rfl) (by kernel_rfl) (fun _ _ _ h => h) (Or.inl ⟨by kernel_rfl, ?_⟩) hHeld ?_; rotate_left; (focus (intro wS hSw; (try dsimp only at hSw); go_simp; (try with_reducible rfl); done)); (try simp only [Act.put, List.setIfInBounds_toArray, List.set_cons_zero, List.set_cons_succ]); refine wpAnyH_take (i := 7) (oi := ⟨some 21, _, _, _, _, _⟩) (v := ?_) rfl (by kernel_rfl) (by kernel_rfl) (by kernel_rfl) (fun _ _ _ h => h) (Or.inl ⟨by kernel_rfl, ?_⟩) hHeld ?_; rotate_left; (focus (intro wS hSw; (try dsimp only at hSw); go_simp; (try with_reducible rfl); done)); (try simp only [Act.put, List.setIfInBounds_toArray, List.set_cons_zero, List.set_cons_succ]))
        (refine wpAnyH_ready (rs := [8]) (by kernel_rfl) (by simp) ?_; refine AllReadyH.cons (o := ⟨some 22, _, _, _, _, _⟩) rfl (fun K hK => ?_) AllReadyH.nil; go_simp)
        refine (rless_any r k _).mono ?_
        rintro e w2 ⟨rfl, hb2⟩
        have X1 := hX.drew.ext hb2
        have R1 := hrc.drew.below hb2
        have B1 := ext_trans (ext_drew hb) hb2
        have own0 := own_below (World.ownsRow.drew hown) hb2
        (refine hK.out _ _ (⟨kbox X1, kcell R1⟩) (fun hHeld => ?_); clear hK K; (try simp only [Act.put, List.setIfInBounds_toArray, List.set_cons_zero, List.set_cons_succ]))
        (refine wpAnyH_take (i := 9) (oi := ⟨some 23, _, _, _, _, _⟩) (v := ?_) rfl (by kernel_rfl) (by kernel_rfl) (by kernel_rfl) (fun _ _ _ h => h) (Or.inl ⟨by kernel_rfl, ?_⟩) hHeld ?_; rotate_left; (focus (intro wS hSw; (try dsimp only at hSw); go_simp; (try with_reducible rfl); done)); (try simp only [Act.put, List.setIfInBounds_toArray, List.set_cons_zero, List.set_cons_succ]); refine wpAnyH_take (i := 10) (oi := ⟨some 24, _, _, _, _, _⟩) (v := ?_) rfl (by kernel_rfl) (by kernel_rfl) (by kernel_rfl) (fun _ _ _ h => h) (Or.inl ⟨by kernel_rfl, ?_⟩) hHeld ?_; rotate_left; (focus (intro wS hSw; (try dsimp only at hSw); go_simp; (try with_reducible rfl); done)); (try simp only [Act.put, List.setIfInBounds_toArray, List.set_cons_zero, List.set_cons_succ]))
        (refine wpAnyH_done (by kernel_rfl) ?_ _)
        go_upto_region 9 with fail
        obtain ⟨W1, hW1⟩ : ∃ W1, W1 = w2 := ⟨_, rfl⟩
        have own1 : W1.ownsRow (w.heap.size + 1) 24 5 u5 o1.length (keysC o1) := by rw [hW1, eo]; exact own0
        rw [← hW1] at X1 R1 B1 ⊢
        have ol1 : o1.length ≤ i + 1 := by rw [eo]; omega
        obtain ⟨v1, hv1⟩ : ∃ v1, v1 = u5 := ⟨_, rfl⟩
        rw [← hv1] at own1 ⊢
        have hpl1 := hide epl
        clear hW1 hown hX hb hrc hrc0 hL hbl hsz eo epl hol i1 i2 hv1 own0 hb2 K1 Y1 hlt2 hHeld hol2
      rotate_left
      focus
        subst hpl
        go_wp2_with fail
        have K1 := hrc.drew
        have Y1 := hX.drew
        refine wp_region_held_drew (S := (fun w' => (w'.cell? ⟨w.heap.size, 0, none⟩ = some (.int .i64 k.party) ∧ w'.cell? ⟨w.heap.size, 1, none⟩ = some (.int .i64 k.serial) ∧ w'.cell? ⟨w.heap.size, 2, none⟩ = some (.string k.secret) ∧ w'.cell? ⟨w.heap.size, 3, none⟩ = some (.int .i64 k.fr) ∧ w'.cell? ⟨w.heap.size, 4, none⟩ = some (.int .i64 k.to)) ∧ (w'.cell? ⟨b, off + i * 5, none⟩ = some (.int .i64 r.party) ∧ w'.cell? ⟨b, off + i * 5 + 1, none⟩ = some (.int .i64 r.serial) ∧ w'.cell? ⟨b, off + i * 5 + 2, none⟩ = some (.string r.secret) ∧ w'.cell? ⟨b, off + i * 5 + 3, none⟩ = some (.int .i64 r.fr) ∧ w'.cell? ⟨b, off + i * 5 + 4, none⟩ = some (.int .i64 r.to)))) (by kernel_rfl) (⟨kbox Y1, kcell K1⟩) (fun hHeld => ?_)
        (refine wpAnyH_take (i := 0) (oi := ⟨some 14, _, _, _, _, _⟩) (v := ?_) rfl (by kernel_rfl) (by kernel_rfl) (by kernel_rfl) (fun _ _ _ h => h) (Or.inl ⟨by kernel_rfl, ?_⟩) hHeld ?_; rotate_left; (focus (intro wS hSw; (try dsimp only at hSw); go_simp; (try with_reducible rfl); done)); (try simp only [Act.put, List.setIfInBounds_toArray, List.set_cons_zero, List.set_cons_succ]); refine wpAnyH_take (i := 1) (oi := ⟨some 15, _, _, _, _, _⟩) (v := ?_) rfl (by kernel_rfl) (by kernel_rfl) (by kernel_rfl) (fun _ _ _ h => h) (Or.inl ⟨by kernel_rfl, ?_⟩) hHeld ?_; rotate_left; (focus (intro wS hSw; (try dsimp only at hSw); go_simp; (try with_reducible rfl); done)); (try simp only [Act.put, List.setIfInBounds_toArray, List.set_cons_zero, List.set_cons_succ]); refine wpAnyH_take (i := 2) (oi := ⟨some 16, _, _, _, _, _⟩) (v := ?_) rfl (by kernel_rfl) (by kernel_rfl) (by kernel_rfl) (fun _ _ _ h => h) (Or.inl ⟨by kernel_rfl, ?_⟩) hHeld ?_; rotate_left; (focus (intro wS hSw; (try dsimp only at hSw); go_simp; (try with_reducible rfl); done)); (try simp only [Act.put, List.setIfInBounds_toArray, List.set_cons_zero, List.set_cons_succ]); refine wpAnyH_take (i := 3) (oi := ⟨some 17, _, _, _, _, _⟩) (v := ?_) rfl (by kernel_rfl) (by kernel_rfl) (by kernel_rfl) (fun _ _ _ h => h) (Or.inl ⟨by kernel_rfl, ?_⟩) hHeld ?_; rotate_left; (focus (intro wS hSw; (try dsimp only at hSw); go_simp; (try with_reducible rfl); done)); (try simp only [Act.put, List.setIfInBounds_toArray, List.set_cons_zero, List.set_cons_succ]); refine wpAnyH_take (i := 4) (oi := ⟨some 18, _, _, _, _, _⟩) (v := ?_) rfl (by kernel_rfl) (by kernel_rfl) (by kernel_rfl) (fun _ _ _ h => h) (Or.inl ⟨by kernel_rfl, ?_⟩) hHeld ?_; rotate_left; (focus (intro wS hSw; (try dsimp only at hSw); go_simp; (try with_reducible rfl); done)); (try simp only [Act.put, List.setIfInBounds_toArray, List.set_cons_zero, List.set_cons_succ]); refine wpAnyH_take (i := 5) (oi := ⟨some 19, _, _, _, _, _⟩) (v := ?_) rfl (by kernel_rfl) (by kernel_rfl) (by kernel_rfl) (fun _ _ _ h => h) (Or.inl ⟨by kernel_rfl, ?_⟩) hHeld ?_; rotate_left; (focus (intro wS hSw; (try dsimp only at hSw); go_simp; (try with_reducible rfl); done)); (try simp only [Act.put, List.setIfInBounds_toArray, List.set_cons_zero, List.set_cons_succ]); refine wpAnyH_take (i := 6) (oi := ⟨some 20, _, _, _, _, _⟩) (v := ?_) rfl (by kernel_rfl) (by kernel_rfl) (by kernel_rfl) (fun _ _ _ h => h) (Or.inl ⟨by kernel_rfl, ?_⟩) hHeld ?_; rotate_left; (focus (intro wS hSw; (try dsimp only at hSw); go_simp; (try with_reducible rfl); done)); (try simp only [Act.put, List.setIfInBounds_toArray, List.set_cons_zero, List.set_cons_succ]); refine wpAnyH_take (i := 7) (oi := ⟨some 21, _, _, _, _, _⟩) (v := ?_) rfl (by kernel_rfl) (by kernel_rfl) (by kernel_rfl) (fun _ _ _ h => h) (Or.inl ⟨by kernel_rfl, ?_⟩) hHeld ?_; rotate_left; (focus (intro wS hSw; (try dsimp only at hSw); go_simp; (try with_reducible rfl); done)); (try simp only [Act.put, List.setIfInBounds_toArray, List.set_cons_zero, List.set_cons_succ]))
        (refine wpAnyH_ready (rs := [8]) (by kernel_rfl) (by simp) ?_; refine AllReadyH.cons (o := ⟨some 22, _, _, _, _, _⟩) rfl (fun K hK => ?_) AllReadyH.nil; go_simp)
        refine (rless_any r k _).mono ?_
        rintro e w2 ⟨rfl, hb2⟩
        have X2 := hX.drew.ext hb2
        have R2 := hrc.drew.below hb2
        have B2 := ext_trans (ext_drew hb) hb2
        have own0 := own_below (World.ownsRow.drew hown) hb2
        have hs2 : w.heap.size + 1 ≤ w2.heap.size := by have := X2.lt; omega
        (refine hK.out _ _ (⟨kbox X2, kcell R2⟩) (fun hHeld => ?_); clear hK K; (try simp only [Act.put, List.setIfInBounds_toArray, List.set_cons_zero, List.set_cons_succ]))
        (refine wpAnyH_take (i := 9) (oi := ⟨some 23, _, _, _, _, _⟩) (v := ?_) rfl (by kernel_rfl) (by kernel_rfl) (by kernel_rfl) (fun _ _ _ h => h) (Or.inl ⟨by kernel_rfl, ?_⟩) hHeld ?_; rotate_left; (focus (intro wS hSw; (try dsimp only at hSw); go_simp; (try with_reducible rfl); done)); (try simp only [Act.put, List.setIfInBounds_toArray, List.set_cons_zero, List.set_cons_succ]); refine wpAnyH_take (i := 10) (oi := ⟨some 24, _, _, _, _, _⟩) (v := ?_) rfl (by kernel_rfl) (by kernel_rfl) (by kernel_rfl) (fun _ _ _ h => h) (Or.inl ⟨by kernel_rfl, ?_⟩) hHeld ?_; rotate_left; (focus (intro wS hSw; (try dsimp only at hSw); go_simp; (try with_reducible rfl); done)); (try simp only [Act.put, List.setIfInBounds_toArray, List.set_cons_zero, List.set_cons_succ]))
        (refine wpAnyH_done (by kernel_rfl) ?_ _)
        go_wp2_with fail
        go_upto_region 9 with (first
          | (refine vl_load w.heap.size 24 (kC k) _ (by rfl) X2 Tryd.underlying24 (by rfl) (hk5 _).out ?_; simp only [kC]; (try simp only [Act.put, List.setIfInBounds_toArray, List.set_cons_zero, List.set_cons_succ]))
          | (at_builtin; go_loud (refine wpList_append_own _ rfl (.tmp 25) (.tmp 27) 22 rfl (w.heap.size + 1) 24 i0 (kV (key0 0 0)) 5 48 Tryd.underlying22 hi.out hi0.out hi1.out hi2.out rfl (by decide) _ _ _ rfl (own0.alloc _) ⟨w2.heap.size, 0, none⟩ 1 1 (kC k) rfl rfl ?c1 ?c2 ?c3 ?c4 ?c5 ?_; (case c1 => exact cell_newL _ _ _); (case c2 => exact (hko _).out); (case c3 => simp only [maxLen]; omega); (case c4 => omega); (case c5 => simp; omega); intro v1 W1 hown1 hg1 _; have own1 := own_snoc hown1; rw [← eo] at own1; have X1 := own_blk X2 own0 hg1 (by omega); have B1 := own_grown' B2 (by omega) own0 hg1 (by omega); have R1 := own_at_keep R2 own0 hg1 hbw)))
        have ol1 : o1.length ≤ i + 1 := by rw [eo, List.length_append]; first | exact hol2.out rfl | exact hol2.out trivial
        have hpl1 := hide epl
        clear hown hX hb hrc hrc0 hL hbl hsz eo epl hol i1 i2 own0 hb2 K1 Y1 hlt2 hHeld X2 R2 B2 hs2 hown1 hg1 hol2
      rotate_left
      all_goals
        have i1 : (i : Int) < (l.length : Int) := by omega
        have i2 : (0 : Int) ≤ (i : Int) := by omega
        have sz1 := X1.lt
        by_cases hp : r.party = k.party
        · have p1 : (r.party == k.party) = true := by simpa using hp
          have p2 : (r.party != k.party) = false := by simpa using hp
          by_cases hs : r.serial = k.serial
          · have s1 : (r.serial == k.serial) = true := by simpa using hs
            have s2 : (r.serial != k.serial) = false := by simpa using hs
            have his := is_t hp hs
            replace hp := hide hp
            replace hs := hide hs
            refine wp_region_held_drew (S := (fun w' => (w'.cell? ⟨w.heap.size, 0, none⟩ = some (.int .i64 k.party) ∧ w'.cell? ⟨w.heap.size, 1, none⟩ = some (.int .i64 k.serial) ∧ w'.cell? ⟨w.heap.size, 2, none⟩ = some (.string k.secret) ∧ w'.cell? ⟨w.heap.size, 3, none⟩ = some (.int .i64 k.fr) ∧ w'.cell? ⟨w.heap.size, 4, none⟩ = some (.int .i64 k.to)) ∧ (w'.cell? ⟨b, off + i * 5, none⟩ = some (.int .i64 r.party) ∧ w'.cell? ⟨b, off + i * 5 + 1, none⟩ = some (.int .i64 r.serial) ∧ w'.cell? ⟨b, off + i * 5 + 2, none⟩ = some (.string r.secret) ∧ w'.cell? ⟨b, off + i * 5 + 3, none⟩ = some (.int .i64 r.fr) ∧ w'.cell? ⟨b, off + i * 5 + 4, none⟩ = some (.int .i64 r.to)))) (by kernel_rfl) (⟨kbox X1, kcell R1⟩) (fun hHeld => ?_)
            (refine wpAnyH_take (i := 0) (oi := ⟨some 29, _, _, _, _, _⟩) (v := ?_) rfl (by kernel_rfl) (by kernel_rfl) (by kernel_rfl) (fun _ _ _ h => h) (Or.inl ⟨by kernel_rfl, ?_⟩) hHeld ?_; rotate_left; (focus (intro wS hSw; (try dsimp only at hSw); go_simp; (try with_reducible rfl); done)); (try simp only [Act.put, List.setIfInBounds_toArray, List.set_cons_zero, List.set_cons_succ]); refine wpAnyH_take (i := 1) (oi := ⟨some 30, _, _, _, _, _⟩) (v := ?_) rfl (by kernel_rfl) (by kernel_rfl) (by kernel_rfl) (fun _ _ _ h => h) (Or.inl ⟨by kernel_rfl, ?_⟩) hHeld ?_; rotate_left; (focus (intro wS hSw; (try dsimp only at hSw); go_simp; (try with_reducible rfl); done)); (try simp only [Act.put, List.setIfInBounds_toArray, List.set_cons_zero, List.set_cons_succ]); refine wpAnyH_take (i := 2) (oi := ⟨some 31, _, _, _, _, _⟩) (v := ?_) rfl (by kernel_rfl) (by kernel_rfl) (by kernel_rfl) (fun _ _ _ h => h) (Or.inl ⟨by kernel_rfl, ?_⟩) hHeld ?_; rotate_left; (focus (intro wS hSw; (try dsimp only at hSw); go_simp; (try with_reducible rfl); done)); (try simp only [Act.put, List.setIfInBounds_toArray, List.set_cons_zero, List.set_cons_succ]); refine wpAnyH_take (i := 3) (oi := ⟨some 32, _, _, _, _, _⟩) (v := ?_) rfl (by kernel_rfl) (by kernel_rfl) (by kernel_rfl) (fun _ _ _ h => h) (Or.inl ⟨by kernel_rfl, ?_⟩) hHeld ?_; rotate_left; (focus (intro wS hSw; (try dsimp only at hSw); go_simp; (try with_reducible rfl); done)); (try simp only [Act.put, List.setIfInBounds_toArray, List.set_cons_zero, List.set_cons_succ]); refine wpAnyH_take (i := 4) (oi := ⟨some 33, _, _, _, _, _⟩) (v := ?_) rfl (by kernel_rfl) (by kernel_rfl) (by kernel_rfl) (fun _ _ _ h => h) (Or.inl ⟨by kernel_rfl, ?_⟩) hHeld ?_; rotate_left; (focus (intro wS hSw; (try dsimp only at hSw); go_simp; (try with_reducible rfl); done)); (try simp only [Act.put, List.setIfInBounds_toArray, List.set_cons_zero, List.set_cons_succ]); refine wpAnyH_take (i := 5) (oi := ⟨some 34, _, _, _, _, _⟩) (v := ?_) rfl (by kernel_rfl) (by kernel_rfl) (by kernel_rfl) (fun _ _ _ h => h) (Or.inl ⟨by kernel_rfl, ?_⟩) hHeld ?_; rotate_left; (focus (intro wS hSw; (try dsimp only at hSw); go_simp; (try with_reducible rfl); done)); (try simp only [Act.put, List.setIfInBounds_toArray, List.set_cons_zero, List.set_cons_succ]); refine wpAnyH_take (i := 6) (oi := ⟨some 35, _, _, _, _, _⟩) (v := ?_) rfl (by kernel_rfl) (by kernel_rfl) (by kernel_rfl) (fun _ _ _ h => h) (Or.inl ⟨by kernel_rfl, ?_⟩) hHeld ?_; rotate_left; (focus (intro wS hSw; (try dsimp only at hSw); go_simp; (try with_reducible rfl); done)); (try simp only [Act.put, List.setIfInBounds_toArray, List.set_cons_zero, List.set_cons_succ]); refine wpAnyH_take (i := 7) (oi := ⟨some 36, _, _, _, _, _⟩) (v := ?_) rfl (by kernel_rfl) (by kernel_rfl) (by kernel_rfl) (fun _ _ _ h => h) (Or.inl ⟨by kernel_rfl, ?_⟩) hHeld ?_; rotate_left; (focus (intro wS hSw; (try dsimp only at hSw); go_simp; (try with_reducible rfl); done)); (try simp only [Act.put, List.setIfInBounds_toArray, List.set_cons_zero, List.set_cons_succ]); refine wpAnyH_take (i := 8) (oi := ⟨some 37, _, _, _, _, _⟩) (v := ?_) rfl (by kernel_rfl) (by kernel_rfl) (by kernel_rfl) (fun _ _ _ h => h) (Or.inl ⟨by kernel_rfl, ?_⟩) hHeld ?_; rotate_left; (focus (intro wS hSw; (try dsimp only at hSw); go_simp; (try with_reducible rfl); done)); (try simp only [Act.put, List.setIfInBounds_toArray, List.set_cons_zero, List.set_cons_succ]); refine wpAnyH_take (i := 9) (oi := ⟨some 38, _, _, _, _, _⟩) (v := ?_) rfl (by kernel_rfl) (by kernel_rfl) (by kernel_rfl) (fun _ _ _ h => h) (Or.inl ⟨by kernel_rfl, ?_⟩) hHeld ?_; rotate_left; (focus (intro wS hSw; (try dsimp only at hSw); go_simp; (try with_reducible rfl); done)); (try simp only [Act.put, List.setIfInBounds_toArray, List.set_cons_zero, List.set_cons_succ]); refine wpAnyH_take (i := 10) (oi := ⟨some 39, _, _, _, _, _⟩) (v := ?_) rfl (by kernel_rfl) (by kernel_rfl) (by kernel_rfl) (fun _ _ _ h => h) (Or.inl ⟨by kernel_rfl, ?_⟩) hHeld ?_; rotate_left; (focus (intro wS hSw; (try dsimp only at hSw); go_simp; (try with_reducible rfl); done)); (try simp only [Act.put, List.setIfInBounds_toArray, List.set_cons_zero, List.set_cons_succ]); refine wpAnyH_take (i := 11) (oi := ⟨some 40, _, _, _, _, _⟩) (v := ?_) rfl (by kernel_rfl) (by kernel_rfl) (by kernel_rfl) (fun _ _ _ h => h) (Or.inl ⟨by kernel_rfl, ?_⟩) hHeld ?_; rotate_left; (focus (intro wS hSw; (try dsimp only at hSw); go_simp; (try with_reducible rfl); done)); (try simp only [Act.put, List.setIfInBounds_toArray, List.set_cons_zero, List.set_cons_succ]); refine wpAnyH_take (i := 12) (oi := ⟨some 41, _, _, _, _, _⟩) (v := ?_) rfl (by kernel_rfl) (by kernel_rfl) (by kernel_rfl) (fun _ _ _ h => h) (Or.inl ⟨by kernel_rfl, ?_⟩) hHeld ?_; rotate_left; (focus (intro wS hSw; (try dsimp only at hSw); go_simp; (try with_reducible rfl); done)); (try simp only [Act.put, List.setIfInBounds_toArray, List.set_cons_zero, List.set_cons_succ]); refine wpAnyH_take (i := 13) (oi := ⟨some 42, _, _, _, _, _⟩) (v := ?_) rfl (by kernel_rfl) (by kernel_rfl) (by kernel_rfl) (fun _ _ _ h => h) (Or.inl ⟨by kernel_rfl, ?_⟩) hHeld ?_; rotate_left; (focus (intro wS hSw; (try dsimp only at hSw); go_simp; (try with_reducible rfl); done)); (try simp only [Act.put, List.setIfInBounds_toArray, List.set_cons_zero, List.set_cons_succ]); refine wpAnyH_take (i := 14) (oi := ⟨some 43, _, _, _, _, _⟩) (v := ?_) rfl (by kernel_rfl) (by kernel_rfl) (by kernel_rfl) (fun _ _ _ h => h) (Or.inl ⟨by kernel_rfl, ?_⟩) hHeld ?_; rotate_left; (focus (intro wS hSw; (try dsimp only at hSw); go_simp; (try with_reducible rfl); done)); (try simp only [Act.put, List.setIfInBounds_toArray, List.set_cons_zero, List.set_cons_succ]); refine wpAnyH_take (i := 15) (oi := ⟨some 44, _, _, _, _, _⟩) (v := ?_) rfl (by kernel_rfl) (by kernel_rfl) (by kernel_rfl) (fun _ _ _ h => h) (Or.inl ⟨by kernel_rfl, ?_⟩) hHeld ?_; rotate_left; (focus (intro wS hSw; (try dsimp only at hSw); go_simp; (try with_reducible rfl); done)); (try simp only [Act.put, List.setIfInBounds_toArray, List.set_cons_zero, List.set_cons_succ]); refine wpAnyH_take (i := 16) (oi := ⟨some 45, _, _, _, _, _⟩) (v := ?_) rfl (by kernel_rfl) (by kernel_rfl) (by kernel_rfl) (fun _ _ _ h => h) (Or.inl ⟨by kernel_rfl, ?_⟩) hHeld ?_; rotate_left; (focus (intro wS hSw; (try dsimp only at hSw); go_simp; (try with_reducible rfl); done)); (try simp only [Act.put, List.setIfInBounds_toArray, List.set_cons_zero, List.set_cons_succ]); refine wpAnyH_take (i := 17) (oi := ⟨some 46, _, _, _, _, _⟩) (v := ?_) rfl (by kernel_rfl) (by kernel_rfl) (by kernel_rfl) (fun _ _ _ h => h) (Or.inl ⟨by kernel_rfl, ?_⟩) hHeld ?_; rotate_left; (focus (intro wS hSw; (try dsimp only at hSw); go_simp; (try with_reducible rfl); done)); (try simp only [Act.put, List.setIfInBounds_toArray, List.set_cons_zero, List.set_cons_succ]))
            (refine wpAnyH_done (by kernel_rfl) ?_ _)
            go_wp2_with fail
            go_roundw
            case rel =>
              have e := htk.out
              rw [if_pos his] at e
              exact ⟨i + 1, v1, by go_num, by omega, rfl, by rw [e, hpl1.out], by rw [e]; exact own1, X1, B1.drew⟩
            case measure => simp [intOf]; omega
          · have s1 : (r.serial == k.serial) = false := by simpa using hs
            have s2 : (r.serial != k.serial) = true := by simpa using hs
            have his := is_f (k := r) (p := k.party) (s := k.serial) (fun h => hs h.2)
            replace hp := hide hp
            refine wp_region_held_drew (S := (fun w' => (w'.cell? ⟨w.heap.size, 0, none⟩ = some (.int .i64 k.party) ∧ w'.cell? ⟨w.heap.size, 1, none⟩ = some (.int .i64 k.serial) ∧ w'.cell? ⟨w.heap.size, 2, none⟩ = some (.string k.secret) ∧ w'.cell? ⟨w.heap.size, 3, none⟩ = some (.int .i64 k.fr) ∧ w'.cell? ⟨w.heap.size, 4, none⟩ = some (.int .i64 k.to)) ∧ (w'.cell? ⟨b, off + i * 5, none⟩ = some (.int .i64 r.party) ∧ w'.cell? ⟨b, off + i * 5 + 1, none⟩ = some (.int .i64 r.serial) ∧ w'.cell? ⟨b, off + i * 5 + 2, none⟩ = some (.string r.secret) ∧ w'.cell? ⟨b, off + i * 5 + 3, none⟩ = some (.int .i64 r.fr) ∧ w'.cell? ⟨b, off + i * 5 + 4, none⟩ = some (.int .i64 r.to)))) (by kernel_rfl) (⟨kbox X1, kcell R1⟩) (fun hHeld => ?_)
            (refine wpAnyH_take (i := 0) (oi := ⟨some 29, _, _, _, _, _⟩) (v := ?_) rfl (by kernel_rfl) (by kernel_rfl) (by kernel_rfl) (fun _ _ _ h => h) (Or.inl ⟨by kernel_rfl, ?_⟩) hHeld ?_; rotate_left; (focus (intro wS hSw; (try dsimp only at hSw); go_simp; (try with_reducible rfl); done)); (try simp only [Act.put, List.setIfInBounds_toArray, List.set_cons_zero, List.set_cons_succ]); refine wpAnyH_take (i := 1) (oi := ⟨some 30, _, _, _, _, _⟩) (v := ?_) rfl (by kernel_rfl) (by kernel_rfl) (by kernel_rfl) (fun _ _ _ h => h) (Or.inl ⟨by kernel_rfl, ?_⟩) hHeld ?_; rotate_left; (focus (intro wS hSw; (try dsimp only at hSw); go_simp; (try with_reducible rfl); done)); (try simp only [Act.put, List.setIfInBounds_toArray, List.set_cons_zero, List.set_cons_succ]); refine wpAnyH_take (i := 2) (oi := ⟨some 31, _, _, _, _, _⟩) (v := ?_) rfl (by kernel_rfl) (by kernel_rfl) (by kernel_rfl) (fun _ _ _ h => h) (Or.inl ⟨by kernel_rfl, ?_⟩) hHeld ?_; rotate_left; (focus (intro wS hSw; (try dsimp only at hSw); go_simp; (try with_reducible rfl); done)); (try simp only [Act.put, List.setIfInBounds_toArray, List.set_cons_zero, List.set_cons_succ]); refine wpAnyH_take (i := 3) (oi := ⟨some 32, _, _, _, _, _⟩) (v := ?_) rfl (by kernel_rfl) (by kernel_rfl) (by kernel_rfl) (fun _ _ _ h => h) (Or.inl ⟨by kernel_rfl, ?_⟩) hHeld ?_; rotate_left; (focus (intro wS hSw; (try dsimp only at hSw); go_simp; (try with_reducible rfl); done)); (try simp only [Act.put, List.setIfInBounds_toArray, List.set_cons_zero, List.set_cons_succ]); refine wpAnyH_take (i := 4) (oi := ⟨some 33, _, _, _, _, _⟩) (v := ?_) rfl (by kernel_rfl) (by kernel_rfl) (by kernel_rfl) (fun _ _ _ h => h) (Or.inl ⟨by kernel_rfl, ?_⟩) hHeld ?_; rotate_left; (focus (intro wS hSw; (try dsimp only at hSw); go_simp; (try with_reducible rfl); done)); (try simp only [Act.put, List.setIfInBounds_toArray, List.set_cons_zero, List.set_cons_succ]); refine wpAnyH_take (i := 5) (oi := ⟨some 34, _, _, _, _, _⟩) (v := ?_) rfl (by kernel_rfl) (by kernel_rfl) (by kernel_rfl) (fun _ _ _ h => h) (Or.inl ⟨by kernel_rfl, ?_⟩) hHeld ?_; rotate_left; (focus (intro wS hSw; (try dsimp only at hSw); go_simp; (try with_reducible rfl); done)); (try simp only [Act.put, List.setIfInBounds_toArray, List.set_cons_zero, List.set_cons_succ]); refine wpAnyH_take (i := 6) (oi := ⟨some 35, _, _, _, _, _⟩) (v := ?_) rfl (by kernel_rfl) (by kernel_rfl) (by kernel_rfl) (fun _ _ _ h => h) (Or.inl ⟨by kernel_rfl, ?_⟩) hHeld ?_; rotate_left; (focus (intro wS hSw; (try dsimp only at hSw); go_simp; (try with_reducible rfl); done)); (try simp only [Act.put, List.setIfInBounds_toArray, List.set_cons_zero, List.set_cons_succ]); refine wpAnyH_take (i := 7) (oi := ⟨some 36, _, _, _, _, _⟩) (v := ?_) rfl (by kernel_rfl) (by kernel_rfl) (by kernel_rfl) (fun _ _ _ h => h) (Or.inl ⟨by kernel_rfl, ?_⟩) hHeld ?_; rotate_left; (focus (intro wS hSw; (try dsimp only at hSw); go_simp; (try with_reducible rfl); done)); (try simp only [Act.put, List.setIfInBounds_toArray, List.set_cons_zero, List.set_cons_succ]); refine wpAnyH_take (i := 8) (oi := ⟨some 37, _, _, _, _, _⟩) (v := ?_) rfl (by kernel_rfl) (by kernel_rfl) (by kernel_rfl) (fun _ _ _ h => h) (Or.inl ⟨by kernel_rfl, ?_⟩) hHeld ?_; rotate_left; (focus (intro wS hSw; (try dsimp only at hSw); go_simp; (try with_reducible rfl); done)); (try simp only [Act.put, List.setIfInBounds_toArray, List.set_cons_zero, List.set_cons_succ]); refine wpAnyH_take (i := 9) (oi := ⟨some 38, _, _, _, _, _⟩) (v := ?_) rfl (by kernel_rfl) (by kernel_rfl) (by kernel_rfl) (fun _ _ _ h => h) (Or.inl ⟨by kernel_rfl, ?_⟩) hHeld ?_; rotate_left; (focus (intro wS hSw; (try dsimp only at hSw); go_simp; (try with_reducible rfl); done)); (try simp only [Act.put, List.setIfInBounds_toArray, List.set_cons_zero, List.set_cons_succ]); refine wpAnyH_take (i := 10) (oi := ⟨some 39, _, _, _, _, _⟩) (v := ?_) rfl (by kernel_rfl) (by kernel_rfl) (by kernel_rfl) (fun _ _ _ h => h) (Or.inl ⟨by kernel_rfl, ?_⟩) hHeld ?_; rotate_left; (focus (intro wS hSw; (try dsimp only at hSw); go_simp; (try with_reducible rfl); done)); (try simp only [Act.put, List.setIfInBounds_toArray, List.set_cons_zero, List.set_cons_succ]); refine wpAnyH_take (i := 11) (oi := ⟨some 40, _, _, _, _, _⟩) (v := ?_) rfl (by kernel_rfl) (by kernel_rfl) (by kernel_rfl) (fun _ _ _ h => h) (Or.inl ⟨by kernel_rfl, ?_⟩) hHeld ?_; rotate_left; (focus (intro wS hSw; (try dsimp only at hSw); go_simp; (try with_reducible rfl); done)); (try simp only [Act.put, List.setIfInBounds_toArray, List.set_cons_zero, List.set_cons_succ]); refine wpAnyH_take (i := 12) (oi := ⟨some 41, _, _, _, _, _⟩) (v := ?_) rfl (by kernel_rfl) (by kernel_rfl) (by kernel_rfl) (fun _ _ _ h => h) (Or.inl ⟨by kernel_rfl, ?_⟩) hHeld ?_; rotate_left; (focus (intro wS hSw; (try dsimp only at hSw); go_simp; (try with_reducible rfl); done)); (try simp only [Act.put, List.setIfInBounds_toArray, List.set_cons_zero, List.set_cons_succ]); refine wpAnyH_take (i := 13) (oi := ⟨some 42, _, _, _, _, _⟩) (v := ?_) rfl (by kernel_rfl) (by kernel_rfl) (by kernel_rfl) (fun _ _ _ h => h) (Or.inl ⟨by kernel_rfl, ?_⟩) hHeld ?_; rotate_left; (focus (intro wS hSw; (try dsimp only at hSw); go_simp; (try with_reducible rfl); done)); (try simp only [Act.put, List.setIfInBounds_toArray, List.set_cons_zero, List.set_cons_succ]); refine wpAnyH_take (i := 14) (oi := ⟨some 43, _, _, _, _, _⟩) (v := ?_) rfl (by kernel_rfl) (by kernel_rfl) (by kernel_rfl) (fun _ _ _ h => h) (Or.inl ⟨by kernel_rfl, ?_⟩) hHeld ?_; rotate_left; (focus (intro wS hSw; (try dsimp only at hSw); go_simp; (try with_reducible rfl); done)); (try simp only [Act.put, List.setIfInBounds_toArray, List.set_cons_zero, List.set_cons_succ]); refine wpAnyH_take (i := 15) (oi := ⟨some 44, _, _, _, _, _⟩) (v := ?_) rfl (by kernel_rfl) (by kernel_rfl) (by kernel_rfl) (fun _ _ _ h => h) (Or.inl ⟨by kernel_rfl, ?_⟩) hHeld ?_; rotate_left; (focus (intro wS hSw; (try dsimp only at hSw); go_simp; (try with_reducible rfl); done)); (try simp only [Act.put, List.setIfInBounds_toArray, List.set_cons_zero, List.set_cons_succ]); refine wpAnyH_take (i := 16) (oi := ⟨some 45, _, _, _, _, _⟩) (v := ?_) rfl (by kernel_rfl) (by kernel_rfl) (by kernel_rfl) (fun _ _ _ h => h) (Or.inl ⟨by kernel_rfl, ?_⟩) hHeld ?_; rotate_left; (focus (intro wS hSw; (try dsimp only at hSw); go_simp; (try with_reducible rfl); done)); (try simp only [Act.put, List.setIfInBounds_toArray, List.set_cons_zero, List.set_cons_succ]); refine wpAnyH_take (i := 17) (oi := ⟨some 46, _, _, _, _, _⟩) (v := ?_) rfl (by kernel_rfl) (by kernel_rfl) (by kernel_rfl) (fun _ _ _ h => h) (Or.inl ⟨by kernel_rfl, ?_⟩) hHeld ?_; rotate_left; (focus (intro wS hSw; (try dsimp only at hSw); go_simp; (try with_reducible rfl); done)); (try simp only [Act.put, List.setIfInBounds_toArray, List.set_cons_zero, List.set_cons_succ]))
            (refine wpAnyH_done (by kernel_rfl) ?_ _)
            go_wp2_with (first
              | (refine vl_load_at b (off + i * 5) (kC r) _ (by rfl) R1 Tryd.underlying24 (by rfl) (hk5 _).out ?_; simp only [kC]; (try simp only [Act.put, List.setIfInBounds_toArray, List.set_cons_zero, List.set_cons_succ]))
              | (at_builtin; refine wpList_append_own _ rfl (.tmp 47) (.tmp 52) 22 rfl (w.heap.size + 1) 24 i0 (kV (key0 0 0)) 5 48 Tryd.underlying22 hi.out hi0.out hi1.out hi2.out rfl (by decide) _ _ _ rfl ((World.ownsRow.drew own1).alloc _) ⟨W1.heap.size, 0, none⟩ 1 1 (kC r) rfl rfl ?c1 ?c2 ?c3 ?c4 ?c5 ?_; (case c1 => exact cell_newL _ _ _); (case c2 => exact (hko _).out); (case c3 => simp only [maxLen]; omega); (case c4 => omega); (case c5 => simp; omega); intro v2 W2 hown2 hg2 _; have own2 := own_snoc hown2; have X2 := own_blk X1.drew (World.ownsRow.drew own1) hg2 (by omega); have B2 := own_grown' B1.drew (by have := B1.size; simpa using this) (World.ownsRow.drew own1) hg2 (by omega)))
            go_roundw
            case rel =>
              have e := htk.out
              rw [if_neg (by rw [his]; decide)] at e
              exact ⟨i + 1, v2, by go_num, by omega, rfl, by rw [e, hpl1.out], by rw [e]; exact own2, X2, B2⟩
            case measure => simp [intOf]; omega
        · have p1 : (r.party == k.party) = false := by simpa using hp
          have p2 : (r.party != k.party) = true := by simpa using hp
          have his := is_f (k := r) (p := k.party) (s := k.serial) (fun h => hp h.1)
          refine wp_region_held_drew (S := (fun w' => (w'.cell? ⟨w.heap.size, 0, none⟩ = some (.int .i64 k.party) ∧ w'.cell? ⟨w.heap.size, 1, none⟩ = some (.int .i64 k.serial) ∧ w'.cell? ⟨w.heap.size, 2, none⟩ = some (.string k.secret) ∧ w'.cell? ⟨w.heap.size, 3, none⟩ = some (.int .i64 k.fr) ∧ w'.cell? ⟨w.heap.size, 4, none⟩ = some (.int .i64 k.to)) ∧ (w'.cell? ⟨b, off + i * 5, none⟩ = some (.int .i64 r.party) ∧ w'.cell? ⟨b, off + i * 5 + 1, none⟩ = some (.int .i64 r.serial) ∧ w'.cell? ⟨b, off + i * 5 + 2, none⟩ = some (.string r.secret) ∧ w'.cell? ⟨b, off + i * 5 + 3, none⟩ = some (.int .i64 r.fr) ∧ w'.cell? ⟨b, off + i * 5 + 4, none⟩ = some (.int .i64 r.to)))) (by kernel_rfl) (⟨kbox X1, kcell R1⟩) (fun hHeld => ?_)
          (refine wpAnyH_take (i := 0) (oi := ⟨some 29, _, _, _, _, _⟩) (v := ?_) rfl (by kernel_rfl) (by kernel_rfl) (by kernel_rfl) (fun _ _ _ h => h) (Or.inl ⟨by kernel_rfl, ?_⟩) hHeld ?_; rotate_left; (focus (intro wS hSw; (try dsimp only at hSw); go_simp; (try with_reducible rfl); done)); (try simp only [Act.put, List.setIfInBounds_toArray, List.set_cons_zero, List.set_cons_succ]); refine wpAnyH_take (i := 1) (oi := ⟨some 30, _, _, _, _, _⟩) (v := ?_) rfl (by kernel_rfl) (by kernel_rfl) (by kernel_rfl) (fun _ _ _ h => h) (Or.inl ⟨by kernel_rfl, ?_⟩) hHeld ?_; rotate_left; (focus (intro wS hSw; (try dsimp only at hSw); go_simp; (try with_reducible rfl); done)); (try simp only [Act.put, List.setIfInBounds_toArray, List.set_cons_zero, List.set_cons_succ]); refine wpAnyH_take (i := 2) (oi := ⟨some 31, _, _, _, _, _⟩) (v := ?_) rfl (by kernel_rfl) (by kernel_rfl) (by kernel_rfl) (fun _ _ _ h => h) (Or.inl ⟨by kernel_rfl, ?_⟩) hHeld ?_; rotate_left; (focus (intro wS hSw; (try dsimp only at hSw); go_simp; (try with_reducible rfl); done)); (try simp only [Act.put, List.setIfInBounds_toArray, List.set_cons_zero, List.set_cons_succ]); refine wpAnyH_take (i := 3) (oi := ⟨some 32, _, _, _, _, _⟩) (v := ?_) rfl (by kernel_rfl) (by kernel_rfl) (by kernel_rfl) (fun _ _ _ h => h) (Or.inl ⟨by kernel_rfl, ?_⟩) hHeld ?_; rotate_left; (focus (intro wS hSw; (try dsimp only at hSw); go_simp; (try with_reducible rfl); done)); (try simp only [Act.put, List.setIfInBounds_toArray, List.set_cons_zero, List.set_cons_succ]); refine wpAnyH_take (i := 4) (oi := ⟨some 33, _, _, _, _, _⟩) (v := ?_) rfl (by kernel_rfl) (by kernel_rfl) (by kernel_rfl) (fun _ _ _ h => h) (Or.inl ⟨by kernel_rfl, ?_⟩) hHeld ?_; rotate_left; (focus (intro wS hSw; (try dsimp only at hSw); go_simp; (try with_reducible rfl); done)); (try simp only [Act.put, List.setIfInBounds_toArray, List.set_cons_zero, List.set_cons_succ]); refine wpAnyH_take (i := 5) (oi := ⟨some 34, _, _, _, _, _⟩) (v := ?_) rfl (by kernel_rfl) (by kernel_rfl) (by kernel_rfl) (fun _ _ _ h => h) (Or.inl ⟨by kernel_rfl, ?_⟩) hHeld ?_; rotate_left; (focus (intro wS hSw; (try dsimp only at hSw); go_simp; (try with_reducible rfl); done)); (try simp only [Act.put, List.setIfInBounds_toArray, List.set_cons_zero, List.set_cons_succ]); refine wpAnyH_take (i := 6) (oi := ⟨some 35, _, _, _, _, _⟩) (v := ?_) rfl (by kernel_rfl) (by kernel_rfl) (by kernel_rfl) (fun _ _ _ h => h) (Or.inl ⟨by kernel_rfl, ?_⟩) hHeld ?_; rotate_left; (focus (intro wS hSw; (try dsimp only at hSw); go_simp; (try with_reducible rfl); done)); (try simp only [Act.put, List.setIfInBounds_toArray, List.set_cons_zero, List.set_cons_succ]); refine wpAnyH_take (i := 7) (oi := ⟨some 36, _, _, _, _, _⟩) (v := ?_) rfl (by kernel_rfl) (by kernel_rfl) (by kernel_rfl) (fun _ _ _ h => h) (Or.inl ⟨by kernel_rfl, ?_⟩) hHeld ?_; rotate_left; (focus (intro wS hSw; (try dsimp only at hSw); go_simp; (try with_reducible rfl); done)); (try simp only [Act.put, List.setIfInBounds_toArray, List.set_cons_zero, List.set_cons_succ]); refine wpAnyH_take (i := 8) (oi := ⟨some 37, _, _, _, _, _⟩) (v := ?_) rfl (by kernel_rfl) (by kernel_rfl) (by kernel_rfl) (fun _ _ _ h => h) (Or.inl ⟨by kernel_rfl, ?_⟩) hHeld ?_; rotate_left; (focus (intro wS hSw; (try dsimp only at hSw); go_simp; (try with_reducible rfl); done)); (try simp only [Act.put, List.setIfInBounds_toArray, List.set_cons_zero, List.set_cons_succ]))
          (refine wpAnyH_take (i := 9) (oi := ⟨some 38, _, _, _, _, _⟩) (v := undef) rfl (by kernel_rfl) (by kernel_rfl) (by kernel_rfl) (fun _ _ _ h => h) (Or.inr ⟨by kernel_rfl, rfl⟩) hHeld ?_; (try simp only [Act.put, List.setIfInBounds_toArray, List.set_cons_zero, List.set_cons_succ]); refine wpAnyH_take (i := 10) (oi := ⟨some 39, _, _, _, _, _⟩) (v := undef) rfl (by kernel_rfl) (by kernel_rfl) (by kernel_rfl) (fun _ _ _ h => h) (Or.inr ⟨by kernel_rfl, rfl⟩) hHeld ?_; (try simp only [Act.put, List.setIfInBounds_toArray, List.set_cons_zero, List.set_cons_succ]); refine wpAnyH_take (i := 11) (oi := ⟨some 40, _, _, _, _, _⟩) (v := undef) rfl (by kernel_rfl) (by kernel_rfl) (by kernel_rfl) (fun _ _ _ h => h) (Or.inr ⟨by kernel_rfl, rfl⟩) hHeld ?_; (try simp only [Act.put, List.setIfInBounds_toArray, List.set_cons_zero, List.set_cons_succ]); refine wpAnyH_take (i := 12) (oi := ⟨some 41, _, _, _, _, _⟩) (v := undef) rfl (by kernel_rfl) (by kernel_rfl) (by kernel_rfl) (fun _ _ _ h => h) (Or.inr ⟨by kernel_rfl, rfl⟩) hHeld ?_; (try simp only [Act.put, List.setIfInBounds_toArray, List.set_cons_zero, List.set_cons_succ]); refine wpAnyH_take (i := 13) (oi := ⟨some 42, _, _, _, _, _⟩) (v := undef) rfl (by kernel_rfl) (by kernel_rfl) (by kernel_rfl) (fun _ _ _ h => h) (Or.inr ⟨by kernel_rfl, rfl⟩) hHeld ?_; (try simp only [Act.put, List.setIfInBounds_toArray, List.set_cons_zero, List.set_cons_succ]); refine wpAnyH_take (i := 14) (oi := ⟨some 43, _, _, _, _, _⟩) (v := undef) rfl (by kernel_rfl) (by kernel_rfl) (by kernel_rfl) (fun _ _ _ h => h) (Or.inr ⟨by kernel_rfl, rfl⟩) hHeld ?_; (try simp only [Act.put, List.setIfInBounds_toArray, List.set_cons_zero, List.set_cons_succ]); refine wpAnyH_take (i := 15) (oi := ⟨some 44, _, _, _, _, _⟩) (v := undef) rfl (by kernel_rfl) (by kernel_rfl) (by kernel_rfl) (fun _ _ _ h => h) (Or.inr ⟨by kernel_rfl, rfl⟩) hHeld ?_; (try simp only [Act.put, List.setIfInBounds_toArray, List.set_cons_zero, List.set_cons_succ]); refine wpAnyH_take (i := 16) (oi := ⟨some 45, _, _, _, _, _⟩) (v := undef) rfl (by kernel_rfl) (by kernel_rfl) (by kernel_rfl) (fun _ _ _ h => h) (Or.inr ⟨by kernel_rfl, rfl⟩) hHeld ?_; (try simp only [Act.put, List.setIfInBounds_toArray, List.set_cons_zero, List.set_cons_succ]))
          (refine wpAnyH_take (i := 17) (oi := ⟨some 46, _, _, _, _, _⟩) (v := ?_) rfl (by kernel_rfl) (by kernel_rfl) (by kernel_rfl) (fun _ _ _ h => h) (Or.inl ⟨by kernel_rfl, ?_⟩) hHeld ?_; rotate_left; (focus (intro wS hSw; (try dsimp only at hSw); go_simp; (try with_reducible rfl); done)); (try simp only [Act.put, List.setIfInBounds_toArray, List.set_cons_zero, List.set_cons_succ]))
          (refine wpAnyH_done (by kernel_rfl) ?_ _)
          go_wp2_with (first
            | (refine vl_load_at b (off + i * 5) (kC r) _ (by rfl) R1 Tryd.underlying24 (by rfl) (hk5 _).out ?_; simp only [kC]; (try simp only [Act.put, List.setIfInBounds_toArray, List.set_cons_zero, List.set_cons_succ]))
            | (at_builtin; refine wpList_append_own _ rfl (.tmp 47) (.tmp 52) 22 rfl (w.heap.size + 1) 24 i0 (kV (key0 0 0)) 5 48 Tryd.underlying22 hi.out hi0.out hi1.out hi2.out rfl (by decide) _ _ _ rfl ((World.ownsRow.drew own1).alloc _) ⟨W1.heap.size, 0, none⟩ 1 1 (kC r) rfl rfl ?c1 ?c2 ?c3 ?c4 ?c5 ?_; (case c1 => exact cell_newL _ _ _); (case c2 => exact (hko _).out); (case c3 => simp only [maxLen]; omega); (case c4 => omega); (case c5 => simp; omega); intro v2 W2 hown2 hg2 _; have own2 := own_snoc hown2; have X2 := own_blk X1.drew (World.ownsRow.drew own1) hg2 (by omega); have B2 := own_grown' B1.drew (by have := B1.size; simpa using this) (World.ownsRow.drew own1) hg2 (by omega)))
          go_roundw
          case rel =>
            have e := htk.out
            rw [if_neg (by rw [his]; decide)] at e
            exact ⟨i + 1, v2, by go_num, by omega, rfl, by rw [e, hpl1.out], by rw [e]; exact own2, X2, B2⟩
          case measure => simp [intOf]; omega
    · obtain rfl : i = l.length := by omega
      have hlen := putTo_len k l
      rw [List.take_length] at hown ⊢
      obtain ⟨o, pl, hst⟩ : ∃ o pl, putTo k l = (o, pl) := ⟨_, _, rfl⟩
      have hput : put l k = if pl then o else o ++ [k] := by unfold put; rw [hst]
      rw [hst] at hown hlen ⊢
      simp only at hown hlen
      replace hst := hide hst
      have hs2 : w.heap.size + 1 ≤ wr.heap.size := by omega
      cases pl with
      | true =>
        rw [if_pos rfl] at hput
        replace hput := hide hput
        go_wp2_with fail
        go_ret
        exact ⟨_, rfl, by rw [hput.out]; exact hown, hb⟩
      | false =>
        rw [if_neg (by decide)] at hput
        replace hput := hide hput
        have hol : o.length ≤ l.length := by simp at hlen; omega
        replace hlen := hide hlen
        go_wp2_with (first
          | (refine vl_load w.heap.size 24 (kC k) _ (by rfl) hX Tryd.underlying24 (by rfl) (hk5 _).out ?_; simp only [kC]; (try simp only [Act.put, List.setIfInBounds_toArray, List.set_cons_zero, List.set_cons_succ]))
          | (at_builtin; refine wpList_append_own _ rfl (.tmp 56) (.tmp 58) 22 rfl (w.heap.size + 1) 24 i0 (kV (key0 0 0)) 5 48 Tryd.underlying22 hi.out hi0.out hi1.out hi2.out rfl (by decide) _ _ _ rfl (hown.alloc _) ⟨wr.heap.size, 0, none⟩ 1 1 (kC k) rfl rfl ?c1 ?c2 ?c3 ?c4 ?c5 ?_; (case c1 => exact cell_newL _ _ _); (case c2 => exact (hko _).out); (case c3 => simp only [maxLen]; omega); (case c4 => omega); (case c5 => simp; omega); intro v1 W1 hown1 hg1 _; have own1 := own_snoc hown1; have B1 := own_grown' hb (by omega) hown hg1 (by omega)))
        go_ret
        exact ⟨_, rfl, by rw [hput.out]; exact own1, B1⟩
end Go.Proofs.YtbccfgeepdmegaaDoor
